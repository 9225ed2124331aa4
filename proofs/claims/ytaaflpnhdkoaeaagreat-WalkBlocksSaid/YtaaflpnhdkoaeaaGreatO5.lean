/- A checked evaluator for the program, and what it tells, part 5: no condition. -/
import Derived.Test.YtaaflpnhdkoaeaaGreatO4
set_option linter.all false
set_option linter.unusedVariables false
set_option linter.unusedSimpArgs false
set_option maxHeartbeats 8000000
set_option maxRecDepth 20000
section
namespace Go.Eng.Sh
open Go.Nd (Ptr bee mayP xI xR fT KE KF)
theorem VC (m n R:Nat)(H:AH):callV [(172,f172 (dy (m+1)) n),(174,f174 (dy (m+1)) n),(62,f62 (dy (m+1)) n)] (dy (m+1)) (.func 173 [.ptr R 0] []) [] H=f173 (dy m) m [.ptr R 0] H:=rfl
theorem zJP (m n R:Nat)(H:AH):callV [(172,f172 (dy (m+1)) n),(174,f174 (dy (m+1)) n),(62,f62 (dy (m+1)) n)] (dy (m+1)) (.func 175 [.ptr R 0] []) [] H=f175 (dy m) m [.ptr R 0] H:=rfl
theorem zDN (m n R:Nat)(H:AH):callV [(172,f172 (dy (m+1)) n),(174,f174 (dy (m+1)) n),(62,f62 (dy (m+1)) n)] (dy (m+1)) (.func 174 [.ptr R 0] []) [] H=f174 (dy (m+1)) n [.ptr R 0] H:=rfl
theorem ix2 (a:Nat)(i:Nat)(h:i<2):uX 1 (.slice a 0 2 4) (.int .i64 ((i:Nat):Int))=some (.ptr a i):=by
 have hb:Nat.blt i 2=true:=by rw[qD];exact h
 simp only[uX,kK _ (show(0:Int)<=((i:Nat):Int)by omega),y7,hb,zM,kD,yW,Nat.mul_one]
theorem inner (m n:Nat){R f:Nat}{q s:AV}{H p t:AH}{a k i:AV}{e:TypeId}(z:H.h.get f=some (.cells [q,s] e 1 false))(u:p.h.get f=some (.cells [q,s] e 1 false))
  (C:callV [(172,f172 (dy (m+1)) n),(174,f174 (dy (m+1)) n),(62,f62 (dy (m+1)) n)] (dy (m+1)) q [] H=some (.tuple [],p)) (F:callV [(172,f172 (dy (m+1)) n),(174,f174 (dy (m+1)) n),(62,f62 (dy (m+1)) n)] (dy (m+1)) s [] p=some (.tuple [],t)) (o:Nat) (O:3<=o):
  jY o (fM (dy (m+1)) n) [a, .ptr R 0, .slice f 0 2 4,k,i, .slice f 0 2 4, .int .i64 (2:Nat), .int .i64 (0:Nat)] H=some (.exit 2 [a, .ptr R 0, .slice f 0 2 4,k,i],t):=by
 obtain⟨o,rfl⟩: ∃j,o=j+3:=⟨o - 3,by omega⟩;have v:((0:Nat):Int)< ((2:Nat):Int):=by omega
 have x:((1:Nat):Int)< ((2:Nat):Int):=by omega
 have y: ¬((2:Nat):Int)< ((2:Nat):Int):=by omega
 have J:((0:Nat):Int)+((1:Nat):Int)=((1:Nat):Int):=rfl;have K:((1:Nat):Int)+((1:Nat):Int)=((2:Nat):Int):=rfl;have L:=ix2 f 0 (by omega);have N:=ix2 f 1 (by omega);rw[wR (vs':=[a, .ptr R 0, .slice f 0 2 4,k,i, .slice f 0 2 4, .int .i64 (2:Nat), .int .i64 (1:Nat)]) (H':=p) (by
  simp(disch:=omega) only[fM,eZ,v,L,jL z,C,J])]
 rw[wR (vs':=[a, .ptr R 0, .slice f 0 2 4,k,i, .slice f 0 2 4, .int .i64 (2:Nat), .int .i64 (2:Nat)]) (H':=t) (by
  simp(disch:=omega) only[fM,eZ,x,N,jL u,F,K])]
 exact jU (by simp only[fM,eZ,y])
theorem zQf (m n:Nat)(hn:3<=n){R o A4:Nat}{p:AH}{e:TypeId}(t:p.h.get o=some (.cells [.func 173 [.ptr R 0] [], .func 175 [.ptr R 0] []] e 1 false))(L:p.ok)(hR:o≠R)
  {F:Str} (K:Nat) (hK:K<1000000) (h0:RdI R p p F false true .nilSlice .nilSlice .nilSlice [] [] []) (U:Nat) (a1:K<U):
  ∃H',jY U (vC (dy (m+1)) n) [.ptr A4 0, .ptr R 0, .slice o 0 2 4, .int .i64 (K:Nat), .int .i64 (0:Nat)] p=some (.exit 0 [.ptr A4 0, .ptr R 0],H')/\
   ∃kv f ks vs rest,(match KE K F with | some (a,b,r)=>ks=a/\vs=b/\rest=r/\RdI R p H' rest false true kv f .nilSlice ks vs [] | none=>RdI R p H' rest true true kv f .nilSlice ks vs []):=by
 have key:=QJ (b:=vC (dy (m+1)) n) K (fun i=>(KE (i+1) F).isSome)
  (fun i N H=>N=[.ptr A4 0, .ptr R 0, .slice o 0 2 4, .int .i64 (K:Nat), .int .i64 (i:Nat)]/\ ∃kv f ks vs rest,KE i F=some (ks,vs,rest)/\RdI R p H rest false true kv f .nilSlice ks vs [])
  (fun x H'=>x= .exit 0 [.ptr A4 0, .ptr R 0]/\ ∃kv f ks vs rest,KE K F=some (ks,vs,rest)/\RdI R p H' rest false true kv f .nilSlice ks vs [])
  (fun x H'=>x= .exit 0 [.ptr A4 0, .ptr R 0]/\ ∃kv f ks vs rest,RdI R p H' rest true true kv f .nilSlice ks vs []) ?_ ?_ ?_ U _ p ⟨rfl,_,_,_,_,_,rfl,h0⟩ a1
 .obtain⟨x,H',k1,v⟩:=key;rw[Nd.decL_all]at v
  cases hd:KE K F with
  | none=>
   rw[hd]at v;simp only[Option.isSome_none,zL,qC]at v;obtain⟨rfl,kv,f,ks,vs,rest,h⟩:=v;exact⟨H',k1,kv,f,ks,vs,rest,h⟩
  | some y=>
   rw[hd]at v;simp only[jK,if_true]at v;obtain⟨rfl,kv,f,ks,vs,rest,q,h⟩:=v;simp only[zB]at q;subst q;exact⟨H',k1,kv,f,ks,vs,rest,rfl,rfl,rfl,h⟩
 .rintro i N H hi ⟨rfl,kv,f,ks,vs,rest,hd,z⟩ j
  obtain⟨_,a2,a3⟩:=Nd.decL_eq hd;obtain⟨J,a4,V,q⟩:=zBY (dy m) m z (by omega);obtain⟨W,a5,Y,s⟩:=zE2 (dy m) m q (by omega);have hp:H.h.get o=_:=(z.prs.keep o (L.lt t) hR).trans t;have O:J.h.get o=_:=(q.prs.keep o (L.lt t) hR).trans t;have S:=inner m n (R:=R) (a:= .ptr A4 0) (k:= .int .i64 (K:Nat)) (i:= .int .i64 (i:Nat)) hp O ((VC m n R H).trans V) ((zJP m n R J).trans Y) n hn;rw[Nd.decL_snoc,hd]at j;simp only[yI]at j;have T:((i:Nat):Int)< ((K:Nat):Int):=by omega
  cases u:xR rest with
  | none=>rw[u]at j;simp at j
  | some a=>
   obtain⟨a,Z⟩:=a;rw[u]at j;simp only[yI]at j;rw[fE u]at q s;simp only at q s
   cases C:xR Z with
   | none=>rw[C]at j;simp at j
   | some b=>
    obtain⟨b,r2⟩:=b;rw[fE C]at s;simp only at s;obtain⟨ee,g2⟩:=s.get;refine⟨_,W, ?_,rfl,_,_,_,_,_, ?_,s⟩
    .simp(disch:=omega) only[vC,eZ,T,lnSl,S,fO,jL g2,yG]
    .rw[Nd.decL_snoc,hd];simp only[yI,u,C]
 .rintro i N H hi ⟨rfl,kv,f,ks,vs,rest,hd,z⟩ j
  obtain⟨_,a2,a3⟩:=Nd.decL_eq hd;obtain⟨J,a4,V,q⟩:=zBY (dy m) m z (by omega);obtain⟨W,a5,Y,s⟩:=zE2 (dy m) m q (by omega);have hp:H.h.get o=_:=(z.prs.keep o (L.lt t) hR).trans t;have O:J.h.get o=_:=(q.prs.keep o (L.lt t) hR).trans t;have S:=inner m n (R:=R) (a:= .ptr A4 0) (k:= .int .i64 (K:Nat)) (i:= .int .i64 (i:Nat)) hp O ((VC m n R H).trans V) ((zJP m n R J).trans Y) n hn;rw[Nd.decL_snoc,hd]at j;simp only[yI]at j;have T:((i:Nat):Int)< ((K:Nat):Int):=by omega
  have a0:(vE (vE rest false).2.1 (vE rest false).2.2).2.2=true:=by
   cases u:xR rest with
   | none=>rw[YF u];exact zBb _
   | some a=>
    obtain⟨a,Z⟩:=a;rw[u]at j;simp only[yI]at j;rw[fE u]
    cases C:xR Z with
    | none=>exact YF C
    | some b=>rw[C]at j;simp at j
  rw[a0]at s;obtain⟨ee,g2⟩:=s.get;refine⟨.exit 0 [.ptr A4 0, .ptr R 0],W, ?_,rfl,rfl,_,_,_,_,_,s⟩;simp(disch:=omega) only[vC,eZ,T,lnSl,S,fO,jL g2]
 .rintro N H ⟨rfl,kv,f,ks,vs,rest,hd,z⟩
  refine⟨.exit 0 [.ptr A4 0, .ptr R 0],H, ?_,rfl,rfl,_,_,_,_,_,hd,z⟩;simp only[vC,eZ,yA]
theorem zQg (m n:Nat)(hn:100<=n){R p A4:Nat}{u W:AH}{e:TypeId}(t:u.h.get p=some (.cells [.func 173 [.ptr R 0] [], .func 174 [.ptr R 0] []] e 1 false))(O:u.ok)(hR:p≠R)
  {J:Str} {a1:AV} {L:Ptr} (K:Nat) (hK:K<1000000) (h0:RdI R u W J false false .nilSlice .nilSlice a1 [] [] [L]) (Y:Nat) (a2:K<Y):
  ∃H',jY Y (vC (dy (m+1)) n) [.ptr A4 0, .ptr R 0, .slice p 0 2 4, .int .i64 (K:Nat), .int .i64 (0:Nat)] W=some (.exit 0 [.ptr A4 0, .ptr R 0],H')/\
   ∃kv j ks f rest,(match KF K J with | some (a,b,r)=>ks=a/\f=L::b/\rest=r/\RdI R u H' rest false false kv .nilSlice j ks [] f | none=>RdI R u H' rest true false kv .nilSlice j ks [] f):=by
 have key:=QJ (b:=vC (dy (m+1)) n) K (fun i=>(KF (i+1) J).isSome)
  (fun i S H=>S=[.ptr A4 0, .ptr R 0, .slice p 0 2 4, .int .i64 (K:Nat), .int .i64 (i:Nat)]/\ ∃kv j ks f rest,KF i J=some (ks,f,rest)/\RdI R u H rest false false kv .nilSlice j ks [] (L::f))
  (fun x H'=>x= .exit 0 [.ptr A4 0, .ptr R 0]/\ ∃kv j ks f rest,KF K J=some (ks,f,rest)/\RdI R u H' rest false false kv .nilSlice j ks [] (L::f))
  (fun x H'=>x= .exit 0 [.ptr A4 0, .ptr R 0]/\ ∃kv j ks f rest,RdI R u H' rest true false kv .nilSlice j ks [] f) ?_ ?_ ?_ Y _ W ⟨rfl,_,_,_,_,_,rfl,h0⟩ a2
 .obtain⟨x,H',k1,z⟩:=key;rw[Nd.decI_all]at z
  cases hd:KF K J with
  | none=>
   rw[hd]at z;simp only[Option.isSome_none,zL,qC]at z;obtain⟨rfl,kv,j,ks,f,rest,h⟩:=z;exact⟨H',k1,kv,j,ks,f,rest,h⟩
  | some y=>
   rw[hd]at z;simp only[jK,if_true]at z;obtain⟨rfl,kv,j,ks,f,rest,q,h⟩:=z;simp only[zB]at q;subst q;exact⟨H',k1,kv,j,ks,L::f,rest,rfl,rfl,rfl,h⟩
 .rintro i S H hi ⟨rfl,kv,j,ks,f,rest,hd,C⟩ o
  obtain⟨_,a3,a4,_⟩:=Nd.decI_eq hd;obtain⟨N,a5,Z,q⟩:=zBY (dy m) m C (by omega);obtain⟨H2,a6,e2,s⟩:=zAu (dy (m+1)) n hn q (by simp;omega);have hp:H.h.get p=_:=(C.prs.keep p (O.lt t) hR).trans t;have T:N.h.get p=_:=(q.prs.keep p (O.lt t) hR).trans t;have U:=inner m n (R:=R) (a:= .ptr A4 0) (k:= .int .i64 (K:Nat)) (i:= .int .i64 (i:Nat)) hp T ((VC m n R H).trans Z) ((zDN m n R N).trans e2) n (by omega);rw[Nd.decI_snoc,hd]at o;simp only[yI]at o;have V:((i:Nat):Int)< ((K:Nat):Int):=by omega
  cases v:xR rest with
  | none=>rw[v]at o;simp at o
  | some a=>
   obtain⟨a,r1⟩:=a;rw[v]at o;simp only[yI]at o;rw[fE v]at q s;simp only at q s
   cases F:fT r1 with
   | none=>rw[F]at o;simp at o
   | some b=>
    obtain⟨b,r2⟩:=b;rw[zBV _ F]at s;simp only at s;obtain⟨ee,g2⟩:=s.get;refine⟨_,H2, ?_,rfl,_,_,_,_,_, ?_,s⟩
    .simp(disch:=omega) only[vC,eZ,V,lnSl,U,fO,jL g2,yG]
    .rw[Nd.decI_snoc,hd];simp only[yI,v,F];rfl
 .rintro i S H hi ⟨rfl,kv,j,ks,f,rest,hd,C⟩ o
  obtain⟨_,a3,a4,_⟩:=Nd.decI_eq hd;obtain⟨N,a5,Z,q⟩:=zBY (dy m) m C (by omega);obtain⟨H2,a6,e2,s⟩:=zAu (dy (m+1)) n hn q (by simp;omega);have hp:H.h.get p=_:=(C.prs.keep p (O.lt t) hR).trans t;have T:N.h.get p=_:=(q.prs.keep p (O.lt t) hR).trans t;have U:=inner m n (R:=R) (a:= .ptr A4 0) (k:= .int .i64 (K:Nat)) (i:= .int .i64 (i:Nat)) hp T ((VC m n R H).trans Z) ((zDN m n R N).trans e2) n (by omega);rw[Nd.decI_snoc,hd]at o;simp only[yI]at o;have V:((i:Nat):Int)< ((K:Nat):Int):=by omega
  have a0:(zDl (vE rest false).2.1 (vE rest false).2.2 (L::f)).2.1=true:=by
   cases v:xR rest with
   | none=>rw[YF v];exact zED _ _
   | some a=>
    obtain⟨a,r1⟩:=a;rw[v]at o;simp only[yI]at o;rw[fE v]
    cases F:fT r1 with
    | none=>exact zBW _ F
    | some b=>rw[F]at o;simp at o
  rw[a0]at s;obtain⟨ee,g2⟩:=s.get;refine⟨.exit 0 [.ptr A4 0, .ptr R 0],H2, ?_,rfl,rfl,_,_,_,_,_,s⟩;simp(disch:=omega) only[vC,eZ,V,lnSl,U,fO,jL g2]
 .rintro S H ⟨rfl,kv,j,ks,f,rest,hd,C⟩
  refine⟨.exit 0 [.ptr A4 0, .ptr R 0],H, ?_,rfl,rfl,_,_,_,_,_,hd,C⟩;simp only[vC,eZ,yA]
def YC (H0 H:AH)(v:AV)(nd:Nd.Node):Prop:= ∃ks vs a,v= .agg [.bool nd.leaf,ks,vs,a]/\Own 1 9 H ks nd.keys.length (nd.keys.map S)/\Own 1 9 H vs nd.vals.length (nd.vals.map S)/\Own 3 42 H a nd.kids.length (nd.kids.flatMap jR)/\(∀B,Blk ks B\/Blk vs B\/Blk a B->H0.next<=B)/\(∀B,Blk ks B-> ¬Blk vs B/\ ¬Blk a B)/\ ∀B,Blk vs B-> ¬Blk a B
theorem YC.node {H0 H:AH}{v:AV}{nd:Nd.Node}(h:YC H0 H v nd):hU H v nd:=by
 obtain⟨ks,vs,a,e,f,i,j,_⟩:=h;exact⟨ks,vs,a,e,f.row,i.row,j.row⟩
theorem zDT {a b:Nat}(t:a<256)(hb:b<256):kI .or (.int .i64 ((a*256:Nat):Int)) (.int .i64 (b:Int))=some (.int .i64 (((a*256+b):Nat):Int)):=by
 have f:a*256||| b=a*256+b:=by
  have:=Nat.two_pow_add_eq_or_of_lt (b:=b) (i:=8) (by omega) a;rw[Nat.mul_comm a 256];exact this.symm
 have h:keq .i64 .i64=true:=rfl;have j:BitVec.ofInt 64 ((a*256:Nat):Int)=BitVec.ofNat 64 (a*256):=BitVec.ofInt_natCast _ _;have m:BitVec.ofInt 64 (b:Int)=BitVec.ofNat 64 b:=BitVec.ofInt_natCast _ _;have o:(BitVec.ofNat 64 (a*256)||| BitVec.ofNat 64 b).toNat=a*256+b:=by
  rw[BitVec.toNat_or,BitVec.toNat_ofNat,BitVec.toNat_ofNat,Nat.mod_eq_of_lt (by omega),Nat.mod_eq_of_lt (by omega),f]
 have p:kI .or (.int .i64 (.ofNat (a*256))) (.int .i64 (.ofNat b))=Q2.slow .or .i64 (.ofNat (a*256)) (.ofNat b):=by
  simp only[kI,gY,h,zM,Q2,IntKind.signed,Bool.not_true,Bool.false_and,qH]
 have q:Q2.slow .or .i64 (.ofNat (a*256)) (.ofNat b)=some (.int .i64 ((a*256+b:Nat):Int)):=by
  have s:Q2.slow .or .i64 (.ofNat (a*256)) (.ofNat b)=fI (IntKind.wrap .i64 ((BitVec.ofInt 64 ((a*256:Nat):Int)||| BitVec.ofInt 64 (b:Int)).toNat:Nat)) (fun n=>some (.int .i64 n)):=rfl;rw[s,zG6,j,m,o,wrap_i64 (by omega) (by omega)]
 exact p.trans q
theorem head2 {s:Str}(h:2<=s.length): ∃a b,s.take 2=[a,b]/\bee (s.take 2)=a.toNat*256+b.toNat:=by
 match s,h with
 | a::b::l,_=>exact⟨a,b,rfl,by simp[bee]⟩
theorem RdI.base {R:Nat}{H0 H H':AH}{rest:Str}{f leaf:Bool}(h:RdI R H0 H rest f leaf .nilSlice .nilSlice .nilSlice [] [] [])(s:Prs H H'):RdI R H' H' rest f leaf .nilSlice .nilSlice .nilSlice [] [] []:=by
 obtain⟨e,i⟩:=h.get;exact⟨zRf s.ok,⟨e,s.get h.prs.ok i⟩,zRo _ _ _,zRo _ _ _,zRo _ _ _,fun B a=>(zRl.1 a).elim,fun B a=>(zRl.1 a).elim,fun B a=>(zRl.1 a).elim,h.small⟩
theorem zQK (D:Dyn)(n:Nat)(hn:200000000<=n){R A4:Nat}{H0 u H:AH}{rest:Str}{z leaf:Bool}{kv m o:AV}{ks vs:List Str}{s:List Ptr}(a:RdI R u H rest z leaf kv m o ks vs s)(hA: ∃c e,c.length=4/\u.h.get A4=some (.cells c e 1 false))(a6:A4≠R)
  (a1:u.ok) (h0:Prs H0 u) (hR:H0.next<=R) (a2:H0.next<=A4) (V:z=true\/small ⟨leaf,ks,vs,s⟩):
  ∃v H',dH (bQ D n [.ptr A4 0, .ptr R 0] H)=some (.tuple [v, .int .i64 ((if z=false/\rest=[]/\Nd.may ltS ⟨leaf,ks,vs,s⟩=true then 0 else 4:Nat):Int)],H')/\Prs H0 H'/\((z=false/\rest=[]/\Nd.may ltS ⟨leaf,ks,vs,s⟩=true)->YC H0 H' v ⟨leaf,ks,vs,s⟩)/\ ∃l,v= .agg l/\l.length=4/\jP l=true:=by
 obtain⟨e,t⟩:=a.get;obtain⟨c,ec,N,W⟩:=hA;have Y:vR [(0,1),(1,1),(2,1),(3,1)] [.bool false, .nilSlice, .nilSlice, .nilSlice] []=some (.agg [.bool false, .nilSlice, .nilSlice, .nilSlice]):=rfl;have a3:H.h.get A4=some (.cells c ec 1 false):=(a.prs.keep A4 (a1.lt W) a6).trans W;have hP:Prs H0 H:=h0.fresh a.prs (fun B f=>by rw[f];exact hR);have U: ∀C,Prs H C-> ∃i,stN 4 (.ptr A4 0) (.agg [.bool false, .nilSlice, .nilSlice, .nilSlice]) C=some (jO,i)/\ldN 4 (.ptr A4 0) i=some (.agg [.bool false, .nilSlice, .nilSlice, .nilSlice])/\Prs H0 i:=by
  intro C j;obtain⟨i,q,Z,y,n3⟩:=jW j.ok (j.get a.prs.ok a3) (l':=[.bool false, .nilSlice, .nilSlice, .nilSlice]) (by simp[N]) rfl;rw[N]at q;refine⟨i,q,by rw[jQ Z];rfl,(hP.trans j).fresh y (fun B f=>by rw[f];exact a2)⟩
 cases z with
 | true=>
  obtain⟨i,q,F,J⟩:=U H (zRf a.prs.ok);refine⟨.agg [.bool false, .nilSlice, .nilSlice, .nilSlice],i, ?_,J,fun h=>by simp at h,_,rfl,rfl,rfl⟩;simp only[bQ,eZ,jL t,Y,q,F,false_and,Bool.true_eq_false]
 | false=>
  have V:=V.resolve_left (by simp);by_cases hr:rest=[]
  .subst hr;have a5:hU H (.agg [.bool leaf,kv,m,o]) ⟨leaf,ks,vs,s⟩:=⟨kv,m,o,rfl,a.k.row,a.v.row,a.p.row⟩;obtain⟨C,O,j⟩:=zIb D n a.prs.ok a5 V hn;have K: ¬(([]:Str)≠[]):=by simp
   have L:(AV.str 0 0)=S []:=rfl;have a0:uU [S [], .bool false, .bool leaf,kv,m,o] 2 4=some [.bool leaf,kv,m,o]:=rfl
   cases hm:Nd.may ltS ⟨leaf,ks,vs,s⟩with
   | false=>
    obtain⟨i,q,F,J⟩:=U C j;rw[hm]at O;refine⟨.agg [.bool false, .nilSlice, .nilSlice, .nilSlice],i, ?_,J,fun h=>by simp at h,_,rfl,rfl,rfl⟩;simp only[bQ,eZ,jL t,jQ t,a0,zZ,L,K,O,Y,q,F,and_false]
   | true=>
    rw[hm]at O;have a4:jP [.bool leaf,kv,m,o]=true:=by
     rw[kY];intro x hx;simp only[zP,List.not_mem_nil,or_false]at hx;rcases hx with rfl | rfl | rfl | rfl
     .rfl
     .exact a.k.row.isCell
     .exact a.v.row.isCell
     .exact a.p.row.isCell
    obtain⟨i,q,Z,y,n3⟩:=jW j.ok (j.get a.prs.ok a3) (l':=[.bool leaf,kv,m,o]) (by simp[N]) a4;rw[N]at q;have a7:ldN 4 (.ptr A4 0) i=some (.agg [.bool leaf,kv,m,o]):=by rw[jQ Z];rfl
    have a8:A4<u.next:=a1.lt W
    have T: ∀B,Blk kv B\/Blk m B\/Blk o B->u.next<=B:=by
     rintro B (h | h | h)
     .exact(a.kb B h).1
     .exact(a.vb B h).1
     .exact(a.pb B h).1
    refine⟨.agg [.bool leaf,kv,m,o],i, ?_,(hP.trans j).fresh y (fun B f=>by rw[f];exact a2),fun _=>⟨kv,m,o,rfl,(a.k.mono j (fun _ _ x=>x)).mono y (fun B f=>by have:=T B (.inl f);omega),(a.v.mono j (fun _ _ x=>x)).mono y (fun B f=>by have:=T B (.inr (.inl f));omega),(a.p.mono j (fun _ _ x=>x)).mono y (fun B f=>by have:=T B (.inr (.inr f));omega),fun B f=>by have:=T B f;have:=h0.next;omega,fun B f=>(a.kb B f).2.2,fun B f=>(a.vb B f).2.2⟩,_,rfl,rfl,a4⟩
    simp only[bQ,eZ,jL t,jQ t,jQ (j.get a.prs.ok t),a0,zZ,L,K,O,q,a7,and_self]
  .obtain⟨i,q,F,J⟩:=U H (zRf a.prs.ok);have K:rest≠[]:=hr;have L:(AV.str 0 0)=S []:=rfl;refine⟨.agg [.bool false, .nilSlice, .nilSlice, .nilSlice],i, ?_,J,fun h=>absurd h.2.1 hr,_,rfl,rfl,rfl⟩;simp only[bQ,eZ,jL t,L,K,Y,q,F,false_and,and_false,ne_eq,j6,hr]
theorem zOd (m n:Nat)(U:100<=n){R f A4:Nat}{t o:AH}{e:TypeId}(s:t.h.get f=some (.cells [.func 173 [.ptr R 0] [], .func 174 [.ptr R 0] []] e 1 false))(z:t.ok)(hR:f≠R)
  {u:Str} {v:AV} {p:List Ptr} (a0:p.length<1000) (K:Nat) (x:RdI R t o u true false .nilSlice .nilSlice v [] [] p) (q:Nat) (a1:K<q):
  ∃H',jY q (vC (dy (m+1)) n) [.ptr A4 0, .ptr R 0, .slice f 0 2 4, .int .i64 (K:Nat), .int .i64 (0:Nat)] o=some (.exit 0 [.ptr A4 0, .ptr R 0],H')/\ ∃kv v ks p rest,RdI R t H' rest true false kv .nilSlice v ks [] p:=by
 obtain⟨q,rfl⟩: ∃j,q=j+1:=⟨q - 1,by omega⟩;by_cases V:K=0
 .subst V;refine⟨o,jU ?_,_,_,_,_,_,x⟩;simp only[vC,eZ,yA]
 .obtain⟨C,a2,W,F⟩:=zBY (dy m) m x (by simp);have L:=zBb u;obtain⟨Y,a3,Z,y⟩:=zAu (dy (m+1)) n U F (by omega);have N:o.h.get f=_:=(x.prs.keep f (z.lt s) hR).trans s;have O:C.h.get f=_:=(F.prs.keep f (z.lt s) hR).trans s;have S:=inner m n (R:=R) (a:= .ptr A4 0) (k:= .int .i64 (K:Nat)) (i:= .int .i64 (0:Nat)) N O ((VC m n R o).trans W) ((zDN m n R C).trans Z) n (by omega);have J:(zDl (vE u true).2.1 (vE u true).2.2 p).2.1=true:=by rw[L];exact zED _ _
  rw[J]at y;obtain⟨ee,g2⟩:=y.get;have T:((0:Nat):Int)< ((K:Nat):Int):=by omega
  refine⟨Y,jU ?_,_,_,_,_,_,y⟩;simp(disch:=omega) only[vC,eZ,T,lnSl,S,fO,jL g2]
theorem RdI.cap {R:Nat}{H0 H:AH}{rest:Str}{a leaf:Bool}{kv f i:AV}{ks vs:List Str}{j:List Ptr}(h:RdI R H0 H rest a leaf kv f i ks vs j):rest.length<=10000:=h.small.1
theorem zJy (m n:Nat)(hn:200000000<=n){H:AH}(W:H.ok)(leaf:Bool)(s:Str):
  ∃v H',f123 (dy (m+1)) n [.bool leaf,S s] H=some (.tuple [v, .int .i64 ((if(Nd.decN ltS leaf s).isSome then 0 else 4:Nat):Int)],H')/\Prs H H'/\(∀nd,Nd.decN ltS leaf s=some nd->YC H H' v nd)/\ ∃l,v= .agg l/\l.length=4/\jP l=true:=by
 have b9:vR [(0,1),(1,1),(2,1),(3,1)] [.bool false, .nilSlice, .nilSlice, .nilSlice] []=some (.agg [.bool false, .nilSlice, .nilSlice, .nilSlice]):=rfl;have u:Prs H (H.push (.cells [.bool false, .nilSlice, .nilSlice, .nilSlice] 119 1 false)):=(zRf W).push _;have g1:(H.push (.cells [.bool false, .nilSlice, .nilSlice, .nilSlice] 119 1 false)).h.get H.next=some (.cells [.bool false, .nilSlice, .nilSlice, .nilSlice] 119 1 false):=zR8 _ _
 have n1:(H.push (.cells [.bool false, .nilSlice, .nilSlice, .nilSlice] 119 1 false)).next=H.next+1:=rfl
 generalize a0:H.push (.cells [.bool false, .nilSlice, .nilSlice, .nilSlice] 119 1 false)=H1 at u g1 n1;have b5: ∀Y,Prs H1 Y-> ∃i,stN 4 (.ptr H.next 0) (.agg [.bool false, .nilSlice, .nilSlice, .nilSlice]) Y=some (jO,i)/\ldN 4 (.ptr H.next 0) i=some (.agg [.bool false, .nilSlice, .nilSlice, .nilSlice])/\Prs H i:=by
  intro Y N;obtain⟨i,t,F,s3,n3⟩:=jW N.ok (N.get u.ok g1) (l':=[.bool false, .nilSlice, .nilSlice, .nilSlice]) rfl rfl;exact⟨i,t,by rw[jQ F];rfl,(u.trans N).fresh s3 (fun B O=>by omega)⟩
 by_cases b6:s.length<=500
 .have U: ¬((500:Nat):Int)< ((s.length:Nat):Int):=by omega
  have a5:vR [(0,1),(1,1),(2,1),(3,1)] [.bool false, .nilSlice, .nilSlice, .nilSlice] [(0, .bool leaf)]=some (.agg [.bool leaf, .nilSlice, .nilSlice, .nilSlice]):=rfl;have a6:vR [(0,1),(1,1),(2,4)] [.str 0 0, .bool false, .bool false, .nilSlice, .nilSlice, .nilSlice] [(0,S s),(2, .agg [.bool leaf, .nilSlice, .nilSlice, .nilSlice])]=some (.agg [S s, .bool false, .bool leaf, .nilSlice, .nilSlice, .nilSlice]):=rfl;have N:Prs H1 (H1.push (.cells [S s, .bool false, .bool leaf, .nilSlice, .nilSlice, .nilSlice] 285 1 false)):=(zRf u.ok).push _;have g2:(H1.push (.cells [S s, .bool false, .bool leaf, .nilSlice, .nilSlice, .nilSlice] 285 1 false)).h.get H1.next=some (.cells [S s, .bool false, .bool leaf, .nilSlice, .nilSlice, .nilSlice] 285 1 false):=zR8 _ _
  have n2:(H1.push (.cells [S s, .bool false, .bool leaf, .nilSlice, .nilSlice, .nilSlice] 285 1 false)).next=H1.next+1:=rfl
  generalize a7:H1.push (.cells [S s, .bool false, .bool leaf, .nilSlice, .nilSlice, .nilSlice] 285 1 false)=Y at N g2 n2;have c1:RdI H1.next Y Y s false leaf .nilSlice .nilSlice .nilSlice [] [] []:=⟨zRf N.ok,⟨_,g2⟩,zRo _ _ _,zRo _ _ _,zRo _ _ _,fun B O=>(zRl.1 O).elim,fun B O=>(zRl.1 O).elim,fun B O=>(zRl.1 O).elim,by omega,by simp,by simp,by simp⟩
  obtain⟨i,t,q⟩:=zA7 (dy (m+1)) n c1 2;obtain⟨d2,F⟩:=q.get;have b1:Prs H1 i:=N.fresh q.prs (fun B O=>by omega);by_cases h2:s.length<2
  .have J:wJ s false 2=([],s,true):=by simp[wJ,h2]
   rw[J]at t q F;simp only at t q F;obtain⟨x,e4,l4,C⟩:=b5 i b1;have hd:Nd.decN ltS leaf s=none:=by simp only[Nd.decN];rw[if_neg (by omega)]
   refine⟨.agg [.bool false, .nilSlice, .nilSlice, .nilSlice],x, ?_,C,(fun nd h=>by rw[hd]at h;cases h),_,rfl,rfl,rfl⟩;rw[hd];simp only[f123,eZ,kT W,a0,U,a5,a6,kT u.ok,a7,t,jL F,b9,e4,l4,Option.isSome_none]
  .have J:wJ s false 2=(s.take 2,s.drop 2,false):=by simp[wJ,h2]
   rw[J]at t q F;simp only at t q F;obtain⟨a,b,b2,hK⟩:=head2 (s:=s) (by omega);have ha:a.toNat<256:=a.toNat_lt;have hb:b.toNat<256:=b.toNat_lt;have Z:=zAy (s.take 2) .i64 (z:=((0:Nat):Int)) (by omega) (by simp;omega);have x1:=zAy (s.take 2) .i64 (z:=((1:Nat):Int)) (by omega) (by simp;omega);simp only[b2]at Z x1
   replace Z:XA (S (s.take 2)) (.int .i64 ((0:Nat):Int))=some (.int .u8 ((a.toNat:Nat):Int)):=by rw[b2];exact Z
   replace x1:XA (S (s.take 2)) (.int .i64 ((1:Nat):Int))=some (.int .u8 ((b.toNat:Nat):Int)):=by rw[b2];exact x1
   have wa:IntKind.wrap .i64 ((a.toNat:Nat):Int)=((a.toNat:Nat):Int):=wrap_i64 (by omega) (by omega);have wb:IntKind.wrap .i64 ((b.toNat:Nat):Int)=((b.toNat:Nat):Int):=wrap_i64 (by omega) (by omega);have a8:=zFm .i64 .u64 ((a.toNat:Nat):Int) (s:=8) (by decide);rw[show IntKind.wrap .i64 (((a.toNat:Nat):Int)*2 ^ 8)=((a.toNat*256:Nat):Int)from by rw[wrap_i64 (by omega) (by omega)];omega]at a8;have a1:=zDT ha hb;rw[<-hK]at a1;have c2:bee (s.take 2)<65536:=by omega
   generalize a2:bee (s.take 2)=K at a1 c2 hK;have b3: ∀(f g:FuncId) (xs ys:List AV),dL 1 1 2 [.nilFunc] [(0, .func f xs []),(1, .func g ys [])]=some (.cells [.func f xs [], .func g ys []] 1 1 false,fun A=> .slice A 0 2 4):=fun _ _ _ _=>rfl
   have C:Prs i (i.push (.cells [.func 173 [.ptr H1.next 0] [], .func 174 [.ptr H1.next 0] []] 1 1 false)):=(zRf q.prs.ok).push _
   have g4:(i.push (.cells [.func 173 [.ptr H1.next 0] [], .func 174 [.ptr H1.next 0] []] 1 1 false)).h.get i.next=some (.cells [.func 173 [.ptr H1.next 0] [], .func 174 [.ptr H1.next 0] []] 1 1 false):=zR8 _ _
   have n4:(i.push (.cells [.func 173 [.ptr H1.next 0] [], .func 174 [.ptr H1.next 0] []] 1 1 false)).next=i.next+1:=rfl
   generalize b4:i.push (.cells [.func 173 [.ptr H1.next 0] [], .func 174 [.ptr H1.next 0] []] 1 1 false)=x at C g4 n4
   have n3:=q.prs.next
   have d1:(s.drop 2).length=s.length - 2:=by simp
   have a3: ∀(Hp o:AH) (rest:Str) (a9:Bool) (kv vv pv:AV) (ks vs:List Str) (T:List Ptr),RdI H1.next Hp o rest a9 leaf kv vv pv ks vs T->Prs H1 Hp->(a9=true\/small ⟨leaf,ks,vs,T⟩)->
     (Nd.decN ltS leaf s=if a9=false/\rest=[]/\Nd.may ltS ⟨leaf,ks,vs,T⟩=true then some ⟨leaf,ks,vs,T⟩else none)->
     f123 (dy (m+1)) n [.bool leaf,S s] H=dH (bQ (dy (m+1)) n [.ptr H.next 0, .ptr H1.next 0] o)->
     ∃v H',f123 (dy (m+1)) n [.bool leaf,S s] H=some (.tuple [v, .int .i64 ((if(Nd.decN ltS leaf s).isSome then 0 else 4:Nat):Int)],H')/\Prs H H'/\(∀nd,Nd.decN ltS leaf s=some nd->YC H H' v nd)/\ ∃l,v= .agg l/\l.length=4/\jP l=true:=by
    intro Hp o rest a9 kv vv pv ks vs T hI hp c3 b7 L;obtain⟨v,H',e,p,c4,l⟩:=zQK (dy (m+1)) n hn (A4:=H.next) hI ⟨_,_,rfl,hp.get u.ok g1⟩ (by omega) hp.ok (u.trans hp) (by omega) (zQ _) c3
    refine⟨v,H', ?_,p, ?_,l⟩
    .rw[L,e,b7];split<;>rfl
    .intro nd a4;rw[b7]at a4;split at a4
     .rename_i hc;simp only[zB]at a4;subst a4;exact c4 hc
     .cases a4
   cases leaf with
   | true=>
    have p5:Prs x (x.push (.cells [.func 173 [.ptr H1.next 0] [], .func 175 [.ptr H1.next 0] []] 1 1 false)):=(zRf C.ok).push _
    have g5:(x.push (.cells [.func 173 [.ptr H1.next 0] [], .func 175 [.ptr H1.next 0] []] 1 1 false)).h.get x.next=some (.cells [.func 173 [.ptr H1.next 0] [], .func 175 [.ptr H1.next 0] []] 1 1 false):=zR8 _ _
    generalize c5:x.push (.cells [.func 173 [.ptr H1.next 0] [], .func 175 [.ptr H1.next 0] []] 1 1 false)=H5 at p5 g5
    have V:=q.base (C.trans p5);obtain⟨o,e9,kv,vv,ks,vs,rest,j⟩:=zQf m n (by omega) (A4:=H.next) g5 p5.ok (by omega) K (by omega) V n (by omega)
    have L:f123 (dy (m+1)) n [.bool true,S s] H=dH (bQ (dy (m+1)) n [.ptr H.next 0, .ptr H1.next 0] o):=by
     simp(disch:=omega) only[f123,eZ,kT W,a0,U,a5,a6,kT u.ok,a7,t,jL F,b3,kT q.prs.ok,b4,kT C.ok,c5,JN,Z,x1,wa,wb,a8,a1,e9]
    have b8:Prs H1 H5:=(b1.trans C).trans p5
    cases hd:KE K (s.drop 2)with
    | none=>
     rw[hd]at j;exact a3 H5 o _ _ _ _ _ _ _ _ j b8 (.inl rfl) (by simp only[Nd.decN,Nd.decB,a2,hd];simp) L
    | some y=>
     obtain⟨y1,y2,y3⟩:=y;rw[hd]at j;obtain⟨rfl,rfl,rfl,j⟩:=j;obtain⟨q1,q2,q3⟩:=Nd.decL_eq hd;have hq:=congrArg List.length q1;rw[zT,Nd.encL_length _ _ (by omega)]at hq;exact a3 H5 o _ _ _ _ _ _ _ _ j b8 (.inr ⟨by simp,by simp;omega,by simp;omega⟩) (by simp only[Nd.decN,Nd.decB,a2,hd];rw[if_pos ⟨b6,by omega⟩];simp) L
   | false=>
    have c6:=q.base C;obtain⟨H5,pv,e5,V⟩:=zAu (dy (m+1)) n (by omega) c6 (by simp);have b0:Prs H1 x:=b1.trans C
    cases J:fT (s.drop 2)with
    | none=>
     have c7:=zBW [] J;rw[c7]at V;have c8:(zDl (s.drop 2) false []).2.2.length<1000:=by
      simp only[zDl];split
      .simp
      .split<;>simp
     obtain⟨o,e9,kv,c9,ks,T,rest,j⟩:=zOd m n (by omega) (A4:=H.next) g4 C.ok (by omega) c8 K V n (by omega)
     have L:f123 (dy (m+1)) n [.bool false,S s] H=dH (bQ (dy (m+1)) n [.ptr H.next 0, .ptr H1.next 0] o):=by
      simp(disch:=omega) only[f123,eZ,kT W,a0,U,a5,a6,kT u.ok,a7,t,jL F,b3,kT q.prs.ok,b4,e5,JN,Z,x1,wa,wb,a8,a1,e9]
     exact a3 x o _ _ _ _ _ _ _ _ j b0 (.inl rfl) (by simp only[Nd.decN,Nd.decB,a2,J];simp) L
    | some y=>
     obtain⟨p0,r0⟩:=y;rw[zBV [] J]at V;obtain⟨d0,_,_⟩:=Nd.takeP_eq J;have c0:=congrArg List.length d0;rw[zT,Nd.encP_length]at c0;obtain⟨o,e9,kv,c9,ks,T,rest,j⟩:=zQg m n (by omega) (A4:=H.next) g4 C.ok (by omega) K (by omega) V n (by omega)
     have L:f123 (dy (m+1)) n [.bool false,S s] H=dH (bQ (dy (m+1)) n [.ptr H.next 0, .ptr H1.next 0] o):=by
      simp(disch:=omega) only[f123,eZ,kT W,a0,U,a5,a6,kT u.ok,a7,t,jL F,b3,kT q.prs.ok,b4,e5,JN,Z,x1,wa,wb,a8,a1,e9]
     cases hd:KF K r0 with
     | none=>
      rw[hd]at j;exact a3 x o _ _ _ _ _ _ _ _ j b0 (.inl rfl) (by simp only[Nd.decN,Nd.decB,a2,J,hd];simp) L
     | some y=>
      obtain⟨y1,y2,y3⟩:=y;rw[hd]at j;obtain⟨rfl,rfl,rfl,j⟩:=j;obtain⟨q1,q2,q3,_⟩:=Nd.decI_eq hd;have hq:=congrArg List.length q1;rw[zT,Nd.encI_length _ _ (by omega)]at hq;exact a3 x o _ _ _ _ _ _ _ _ j b0 (.inr ⟨by simp;omega,by simp;omega,by simp[Nd.sumL]⟩) (by simp only[Nd.decN,Nd.decB,a2,J,hd];rw[if_pos ⟨b6,by omega⟩];simp) L
 .have U:((500:Nat):Int)< ((s.length:Nat):Int):=by omega
  obtain⟨i,t,l3,p3⟩:=b5 H1 (zRf u.ok);have hd:Nd.decN ltS leaf s=none:=by simp only[Nd.decN];rw[if_neg (by omega)]
  refine⟨.agg [.bool false, .nilSlice, .nilSlice, .nilSlice],i, ?_,p3,(fun nd h=>by rw[hd]at h;cases h),_,rfl,rfl,rfl⟩;rw[hd];simp only[f123,eZ,kT W,a0,U,b9,t,l3,Option.isSome_none]
open Go.Nd (sumL)
theorem YB (x:Bool)(a b c:AV)(f:isCell a=true)(hb:isCell b=true)(h:isCell c=true):jP [.bool x,a,b,c]=true:=by
 simp only[jP,f,hb,h];rfl
theorem kZ.zero (k e:Nat){H:AH}{A:Nat}{a:TypeId}{g:Bool}(h:H.h.get A=some (.cells [] a k g))(f:H.ok):kZ k e H (.slice A 0 0 0) 0 []:= .inr ⟨by simp,A,a,g,rfl,f.lt h,h,rfl⟩
theorem zCJ (b:Bool):aveq (.bool b) (.bool b)=true:=by cases b<;>rfl
theorem vI (l:List Str):jP (l.map S)=true:=by
 rw[kY];intro x a;obtain⟨s,_,rfl⟩:=qU.1 a;rfl
theorem uY (l:List Ptr):jP (l.flatMap jR)=true:=by
 rw[kY];intro x a;obtain⟨p,_,hp⟩:=List.mem_flatMap.1 a;simp only[jR,zP,List.not_mem_nil,or_false]at hp;rcases hp with rfl | rfl | rfl<;>rfl
theorem Rw.blk {k n:Nat}{H:AH}{v:AV}{l:List AV}(h:Rw k H v n l){B:Nat}(a:Blk v B):B<H.next:=by
 obtain⟨_,⟨rfl,_⟩ | ⟨rfl,_⟩ | ⟨A,off,cc,c,e,sz,g,rfl,_,f,_⟩⟩:=h
 .exact(zRl.1 a).elim
 .obtain⟨_,_,_,h⟩:=a;cases h
 .rw[zRd.1 a];exact f
def zRp:=@Rw.blk
def kC (H:AH)(v:AV)(nd:Nd.Node):Prop:= ∃ks vs a,v= .agg [.bool nd.leaf,ks,vs,a]/\kZ 1 9 H ks nd.keys.length (nd.keys.map S)/\kZ 1 9 H vs nd.vals.length (nd.vals.map S)/\kZ 3 42 H a nd.kids.length (nd.kids.flatMap jR)
theorem kC.node {H:AH}{v:AV}{nd:Nd.Node}(h:kC H v nd):hU H v nd:=by
 obtain⟨ks,vs,a,e,f,i,j⟩:=h;exact⟨ks,vs,a,e,f.row,i.row,j.row⟩
theorem kC.prs {H H':AH}{v:AV}{nd:Nd.Node}(h:kC H v nd)(s:Prs H H'):kC H' v nd:=by
 obtain⟨ks,vs,a,e,f,i,j⟩:=h;exact⟨ks,vs,a,e,f.mono s (fun _ _ x=>x),i.mono s (fun _ _ x=>x),j.mono s (fun _ _ x=>x)⟩
theorem Own.st {k e n:Nat}{H:AH}{v:AV}{l:List AV}(h:Own k e H v n l)(m:H.ok)(j:0<k){i:Nat}(hi:i<n){x:AV}(a:(jT x).length=k)(o:jP (jT x)=true):
  ∃p H' l',(∀κ (z:Int),z=(i:Int)->uX k v (.int κ z)=some p)/\stN k p x H=some (jO,H')/\Own k e H' v n l'/\Stp (Blk v) H H':=by
 obtain⟨u,⟨_,rfl⟩ | ⟨A,rfl,f,q⟩⟩:=h
 .omega
 .have t:i*k+k<=n*k:=by rw[<-jI];exact yN _ hi
  have hb:Nat.blt i n=true:=by rw[qD];exact hi
  refine⟨.ptr A (0+i*k),_,_,fun κ z s=> ?_,WE q j a o (by omega),⟨?_, .inr ⟨A,rfl,f,by rw[zRc,if_pos rfl]⟩⟩,(zRf m).put f _ (.inr (zRd.2 rfl))⟩
  .subst s;simp only[uX,kK κ (show(0:Int)<=(i:Int)by omega),y7,hb,zM,kD]
  .simp only[zT,qA,qK,a];omega
theorem zQV (x:Nat):Nat.ble 0 x=true:=by rw[qV];omega
theorem zAd {k e n:Nat}{H:AH}{v:AV}{l:List AV}(h:kZ k e H v n l)(t:0<k){i:Nat}(hi:i<=n)(κ x:IntKind):
  ∃r,vY k v none (some (.int κ (i:Nat))) (some (.int x (i:Nat))) H=some r/\Rw k H r i (l.take (i*k))/\(0<i->r≠ .nilSlice/\r≠ .emptySl):=by
 have f:=kK κ (z:=((i:Nat):Int)) (by omega);have j:=kK x (z:=((i:Nat):Int)) (by omega);simp only[y7]at f j;have hb:Nat.blt 0 k=true:=by rw[qD];exact t
 have y:Nat.beq i 0=decide (i=0):=by rw[yK];simp
 have u:i*k<=n*k:=yN _ hi;have b1:Nat.ble i n=true:=by rw[qV];exact hi
 have b2:Nat.ble i i=true:=by rw[qV];exact zQ _
 have J:Nat.ble 0 i=true:=by rw[qV];omega
 rcases h with⟨q,⟨rfl,rfl⟩ | ⟨A,rfl,p,a⟩⟩ | ⟨q,A,C,g,rfl,p,a,F⟩
 .obtain rfl:i=0:=by omega
  exact⟨.nilSlice,by simp only[vY,kX,f,j];simp,⟨by simp, .inl ⟨rfl,rfl⟩⟩,fun h=>absurd h (by omega)⟩
 .have m:kL l true k 0 1 k=n:=by
   simp only[kL,show((1 % 2).beq 0)=false from rfl,qH,yF,show Nat.beq 0 (1 / 2*k)=true from by simp,qN,zM,jX,q,jD];exact Nat.mul_div_cancel _ t
  by_cases o:i=0
  .subst o;refine⟨.slice A 0 0 0, ?_,⟨by simp, .inr (.inr ⟨A,0,0,l,e,k,true,rfl,a,p,by simp,by simp⟩)⟩,fun h=>absurd h (by omega)⟩;simp only[vY,kX,f,j,a,hb,zM];simp[K1,m,kD,zQV]
  .have s:Nat.beq i 0=false:=by rw[y];simpa using o
   refine⟨.slice A 0 i (2*i), ?_,⟨by rw[qA,q,Nat.min_eq_left u], .inr (.inr ⟨A,0,2*i,l,e,k,true,rfl,a,p,by omega,by simp⟩)⟩,fun _=>⟨by simp,by simp⟩⟩;simp only[vY,kX,f,j,a,hb,zM];simp[K1,m,b1,b2,s,kD,zQV]
 .have m:kL l g k 0 (2*n) k=n:=by
   simp only[kL,show((2*n) % 2).beq 0=true by rw[jC];rfl,zM,yQ n (show 0<2 by omega)]
  by_cases o:i=0
  .subst o;refine⟨.slice A 0 0 0, ?_,⟨by simp, .inr (.inr ⟨A,0,0,l,C,k,g,rfl,a,p,by simp,by simp⟩)⟩,fun h=>absurd h (by omega)⟩;simp only[vY,kX,f,j,a,hb,zM];simp[K1,m,kD,zQV]
  .have s:Nat.beq i 0=false:=by rw[y];simpa using o
   refine⟨.slice A 0 i (2*i), ?_,⟨by rw[qA,q,Nat.min_eq_left u], .inr (.inr ⟨A,0,2*i,l,C,k,g,rfl,a,p,by omega,by simp⟩)⟩,fun _=>⟨by simp,by simp⟩⟩;simp only[vY,kX,f,j,a,hb,zM];simp[K1,m,b1,b2,s,kD,zQV]
theorem YL {k e n:Nat}{H:AH}{v:AV}{l:List AV}(h:kZ k e H v n l)(q:0<k){i:Nat}(hi:i<n)(κ:IntKind):
  ∃r,vY k v (some (.int κ (i:Nat))) none none H=some r/\Rw k H r (n - i) (l.drop (i*k))/\r≠ .nilSlice/\r≠ .emptySl:=by
 have o:=kK κ (z:=((i:Nat):Int)) (by omega);simp only[y7]at o;have hb:Nat.blt 0 k=true:=by rw[qD];exact q
 have F:i*k<=n*k:=yN _ (by omega);have m:(n - i)*k=n*k - i*k:=Nat.sub_mul _ _ _;have b1:Nat.ble n n=true:=by rw[qV];exact zQ _
 have b2:Nat.ble i n=true:=by rw[qV];omega
 have y:Nat.blt i n=true:=by rw[qD];exact hi
 have t:Nat.beq n i=false:=by rw[y8];intro h;have:=Nat.eq_of_beq_eq_true h;omega
 rcases h with⟨a,⟨rfl,rfl⟩ | ⟨A,rfl,p,f⟩⟩ | ⟨a,A,C,g,rfl,p,f,J⟩
 .omega
 .have j:kL l true k 0 1 k=n:=by
   simp only[kL,show((1 % 2).beq 0)=false from rfl,qH,yF,show Nat.beq 0 (1 / 2*k)=true from by simp,qN,zM,jX,a,jD];exact Nat.mul_div_cancel _ q
  by_cases s:i=0
  .subst s;refine⟨.slice A 0 n 1, ?_,⟨by simp[a], .inr (.inr ⟨A,0,1,l,e,k,true,by simp,f,p,by simp[a],by rw[jD,Nat.zero_mul,yB,zX (by omega)]⟩)⟩,by simp,by simp⟩;simp only[vY,kX,o,f,hb,zM];simp[K1,j,b1,kD,zQV,show Nat.beq 1 0=false from rfl]
  .have u:Nat.beq i 0=false:=by rw[y8];intro h;exact s (Nat.eq_of_beq_eq_true h)
   refine⟨.slice A (0+i*k) (n - i) (1+2*i), ?_,⟨by simp[a,m], .inr (.inr ⟨A,0+i*k,1+2*i,l,e,k,true,rfl,f,p,by omega,by rw[yW,zX (by simp[a,m])]⟩)⟩,by simp,by simp⟩;simp only[vY,kX,o,f,hb,zM];simp[K1,j,b1,b2,y,u,kD,show Nat.beq 1 0=false from rfl]
 .have j:kL l g k 0 (2*n) k=n:=by
   simp only[kL,show((2*n) % 2).beq 0=true by rw[jC];rfl,zM,yQ n (show 0<2 by omega)]
  have x:Nat.beq (2*n / 2) i=false:=by rw[yQ n (show 0<2 by omega)];exact t
  refine⟨.slice A (0+i*k) (n - i) (2*(2*n / 2 - i)), ?_,⟨by simp[a,m], .inr (.inr ⟨A,0+i*k,2*(2*n / 2 - i),l,C,k,g,rfl,f,p,by omega,by rw[yW,zX (by simp[a,m])]⟩)⟩,by simp,by simp⟩;simp only[vY,kX,o,f,hb,zM];simp[K1,j,b1,b2,x,kD,t]
theorem Y2 (D:Dyn)(n:Nat){H:AH}(j:H.ok){v:AV}{l:List Str}(h:Strs H v l)(s:v≠ .nilSlice)(t:v≠ .emptySl)(hl:l.length<=1000000000):
  ∃a H',f108 D n [v] H=some (a,H')/\Prs H H'/\kZ 1 9 H' a l.length (l.map S)/\ ∀B,Blk a B->H.next<=B:=by
 have f:Prs H (H.push (.cells [] 9 1 false)):=(zRf j).push _;have m:(H.push (.cells [] 9 1 false)).h.get H.next=some (.cells [] 9 1 false):=zR8 _ _
 have u:(H.push (.cells [] 9 1 false)).next=H.next+1:=rfl
 generalize o:H.push (.cells [] 9 1 false)=H1 at f m u;obtain⟨a,x,y,z,C,F⟩:=(kZ.zero 1 9 m f.ok).app (bytes:=16) f.ok (by decide) (Rw.srcOf (h.prs f)) (by simp) (vI _) (by omega) (by decide);have p:dL 9 1 0 [.str 0 0] []=some (.cells [] 9 1 false,fun A=> .slice A 0 0 0):=rfl;have q:bZ .eql (eqS v .nilSlice)=some (.bool false):=by
  obtain⟨_,⟨rfl,_⟩ | ⟨rfl,_⟩ | ⟨A,off,cc,c,e,sz,g,rfl,_⟩⟩:=h
  .exact absurd rfl s
  .exact absurd rfl t
  .rfl
 refine⟨a,x, ?_,f.fresh C (fun B i=>by rw[zRd.1 i];exact zQ _),by simpa using z,fun B i=> ?_⟩
 .simp only[f108,eZ,q,p,kT j,o,y]
 .rcases F B i with h | h
  .rw[zRd.1 h];exact zQ _
  .omega
theorem V8 (D:Dyn)(n:Nat){H:AH}(m:H.ok){v:AV}{l:List Ptr}(h:vS H v l)(t:v≠ .nilSlice)(u:v≠ .emptySl)(hl:l.length<=1000000000):
  ∃f H',f81 D n [v] H=some (f,H')/\Prs H H'/\kZ 3 42 H' f l.length (l.flatMap jR)/\ ∀B,Blk f B->H.next<=B:=by
 have i:Prs H (H.push (.cells [] 42 3 false)):=(zRf m).push _;have o:(H.push (.cells [] 42 3 false)).h.get H.next=some (.cells [] 42 3 false):=zR8 _ _
 have x:(H.push (.cells [] 42 3 false)).next=H.next+1:=rfl
 generalize p:H.push (.cells [] 42 3 false)=H1 at i o x;obtain⟨f,y,z,C,F,J⟩:=(kZ.zero 3 42 o i.ok).app (bytes:=24) i.ok (by decide) (Rw.srcOf (h.prs i)) h.1 (uY _) (by omega) (by decide);have q: ∀a b c:AV,dL 42 3 0 [a,b,c] []=some (.cells [] 42 3 false,fun A=> .slice A 0 0 0):=fun _ _ _=>rfl
 have s:bZ .eql (eqS v .nilSlice)=some (.bool false):=by
  obtain⟨_,⟨rfl,_⟩ | ⟨rfl,_⟩ | ⟨A,off,cc,c,e,sz,g,rfl,_⟩⟩:=h
  .exact absurd rfl t
  .exact absurd rfl u
  .rfl
 refine⟨f,y, ?_,i.fresh F (fun B j=>by rw[zRd.1 j];exact zQ _),by simpa using C,fun B j=> ?_⟩
 .simp only[f81,eZ,s,q,kT m,p,z]
 .rcases J B j with h | h
  .rw[zRd.1 h];exact zQ _
  .omega
open Go.Nd (cutOk)
def gK (nd:Nd.Node):Prop:=2<=nd.keys.length/\(nd.leaf=true\/3<=nd.keys.length)
def hbnd (nd:Nd.Node)(k:Nat):Prop:=
 (k=1\/Nd.size (Nd.cutA nd k)<=(Nd.size nd - 2) / 2+2)/\(k+(if nd.leaf then 1 else 2)=nd.keys.length\/(Nd.size nd - 2) / 2+2<Nd.size (Nd.cutA nd (k+1)))
theorem W0 (l:List Str){i:Nat}(h:i<l.length):sumL (l.take (i+1))=sumL (l.take i)+(1+(l[i]).length):=by
 rw[qJ h,Nd.sumL_append,Nd.sumL_cons];rfl
theorem size_leaf {nd:Nd.Node}(hl:nd.leaf=true)(a:nd.vals.length=nd.keys.length){i:Nat}(h:i<nd.keys.length):Nd.size (Nd.cutA nd (i+1))=Nd.size (Nd.cutA nd i)+(1+(nd.keys[i]).length)+(1+(nd.vals[i]'(by omega)).length):=by
 simp only[Nd.cutA,hl,if_true,Nd.size,W0 nd.keys h,W0 nd.vals (i:=i) (by omega)];omega
theorem size_inner {nd:Nd.Node}(hl:nd.leaf=false)(a:nd.kids.length=nd.keys.length+1){i:Nat}(h:i<nd.keys.length):Nd.size (Nd.cutA nd (i+1))=Nd.size (Nd.cutA nd i)+(1+(nd.keys[i]).length)+16:=by
 simp only[Nd.cutA,hl,zL,qC,Nd.size,W0 nd.keys h,qA];omega
theorem zAf (nd:Nd.Node):2<=Nd.size nd:=by simp only[Nd.size];omega
theorem zEI (D:Dyn)(n:Nat){H:AH}{ks vs T:AV}{nd:Nd.Node}(U:Strs H ks nd.keys)(V:Strs H vs nd.vals)(f:nd.leaf=true->nd.vals.length=nd.keys.length)(hp:nd.leaf=false->nd.kids.length=nd.keys.length+1){A:Nat}{e:TypeId}(o:H.h.get A=some (.cells [.bool nd.leaf,ks,vs,T] e 1 false))
  (most:Nat) (L:Nat) (hL:L<=nd.keys.length) (hb:nd.keys.length<=1000000000) (s:Nd.size nd<=1000000000) (u:Nat) (W:L<u):
  Fin (jY u (fL D n) [.ptr A 0, .int .i64 (most:Nat), .int .i64 (L:Nat), .int .i64 ((Nd.size (Nd.cutA nd 0) - 2:Nat):Int), .int .i64 (L:Nat), .int .i64 (0:Nat)] H) fun x H'=>H'=H/\((∃j:Nat,0<j/\j<L/\x= .ret (.int .i64 (j:Nat))/\(j=1\/Nd.size (Nd.cutA nd j)<=most+2)/\most+2<Nd.size (Nd.cutA nd (j+1)))\/(x= .exit 0 [.int .i64 (L:Nat)]/\(L<=1\/Nd.size (Nd.cutA nd L)<=most+2))):=by
 refine Fin.loop (fun k y H'=>H'=H/\ ∃(i:Nat),y=[.ptr A 0, .int .i64 (most:Nat), .int .i64 (L:Nat), .int .i64 ((Nd.size (Nd.cutA nd i) - 2:Nat):Int), .int .i64 (L:Nat), .int .i64 (i:Nat)]/\i<=L/\k=L - i/\(i<=1\/Nd.size (Nd.cutA nd i)<=most+2)) ?_ u L _ H ⟨rfl,0,rfl,by omega,by omega, .inl (by omega)⟩ W
 rintro k y H' ⟨rfl,i,rfl,hi,rfl,J⟩
 by_cases K:i<L
 .have a:i<nd.keys.length:=by omega
  obtain⟨p,z,C⟩:=U.at a;have m:((i:Nat):Int)< ((L:Nat):Int):=by omega
  have z2:=zAf (Nd.cutA nd i);have a0:=zAf (Nd.cutA nd (i+1));have v:Fin (bN D n [.ptr A 0, .int .i64 (most:Nat), .int .i64 (L:Nat), .int .i64 ((Nd.size (Nd.cutA nd (i+1)) - 2:Nat):Int), .int .i64 (i:Nat), .int .i64 (L:Nat), .int .i64 (i:Nat)] H')
    (orN (fun N t=> ∃k',k'<L - i/\t=H'/\ ∃(i:Nat),N=[.ptr A 0, .int .i64 (most:Nat), .int .i64 (L:Nat), .int .i64 ((Nd.size (Nd.cutA nd i) - 2:Nat):Int), .int .i64 (L:Nat), .int .i64 (i:Nat)]/\i<=L/\k'=L - i/\(i<=1\/Nd.size (Nd.cutA nd i)<=most+2))
     (fun x t=>t=H'/\((∃j:Nat,0<j/\j<L/\x= .ret (.int .i64 (j:Nat))/\(j=1\/Nd.size (Nd.cutA nd j)<=most+2)/\most+2<Nd.size (Nd.cutA nd (j+1)))\/(x= .exit 0 [.int .i64 (L:Nat)]/\(L<=1\/Nd.size (Nd.cutA nd L)<=most+2))))):=by
   by_cases F:0<i/\most<Nd.size (Nd.cutA nd (i+1)) - 2
   .have c1:((0:Nat):Int)< (i:Int):=by omega
    have c2:((most:Nat):Int)< ((Nd.size (Nd.cutA nd (i+1)) - 2:Nat):Int):=by omega
    have:bN D n [.ptr A 0, .int .i64 (most:Nat), .int .i64 (L:Nat), .int .i64 ((Nd.size (Nd.cutA nd (i+1)) - 2:Nat):Int), .int .i64 (i:Nat), .int .i64 (L:Nat), .int .i64 (i:Nat)] H'=some (.ret (.int .i64 (i:Nat)),H'):=by
     simp(disch:=omega) only[bN,eZ,c1,c2]
    rw[this];exact⟨_,_,rfl,rfl, .inl ⟨i,F.1,K,rfl,by omega,by omega⟩⟩
   .have O:(decide (((0:Nat):Int)< (i:Int))&&decide (((most:Nat):Int)< ((Nd.size (Nd.cutA nd (i+1)) - 2:Nat):Int)))=false:=by
     rw[y8];intro Y;simp only[zE,zR]at Y;exact F ⟨by omega,by omega⟩
    have:bN D n [.ptr A 0, .int .i64 (most:Nat), .int .i64 (L:Nat), .int .i64 ((Nd.size (Nd.cutA nd (i+1)) - 2:Nat):Int), .int .i64 (i:Nat), .int .i64 (L:Nat), .int .i64 (i:Nat)] H'=some (.norm [.ptr A 0, .int .i64 (most:Nat), .int .i64 (L:Nat), .int .i64 ((Nd.size (Nd.cutA nd (i+1)) - 2:Nat):Int), .int .i64 (L:Nat), .int .i64 ((i+1:Nat):Int)],H'):=by
     simp(disch:=omega) only[bN,eZ,O,yG]
    rw[this];exact⟨_,_,rfl,L - (i+1),by omega,rfl,i+1,rfl,by omega,rfl,by omega⟩
  have a1:Nd.size (Nd.cutA nd i)<=1000000002:=by
   have t1:=Nd.sumL_take_le nd.keys i;have t2:=Nd.sumL_take_le nd.vals i;have:Nd.size nd=2+16*nd.kids.length+sumL nd.keys+sumL nd.vals:=rfl;have Z:sumL []=0:=rfl;simp only[Nd.cutA];split<;>simp only[Nd.size,yJ,qA,Z]<;>omega
  have a2:(nd.keys[i]).length<=1000000000:=by
   have:=Nd.sumL_drop_le nd.keys i;rw[qL a,Nd.sumL_cons]at this;have:Nd.size nd=2+16*nd.kids.length+sumL nd.keys+sumL nd.vals:=rfl;omega
  cases hl:nd.leaf with
  | true=>
   rw[hl]at o;obtain⟨q,q1,q2⟩:=V.at (i:=i) (by rw[f hl];exact a);have hs:=size_leaf hl (f hl) a;have a3:(nd.vals[i]'(by rw[f hl];exact a)).length<=1000000000:=by
    have:=Nd.sumL_drop_le nd.vals i;rw[qL (by rw[f hl];exact a),Nd.sumL_cons]at this;have:Nd.size nd=2+16*nd.kids.length+sumL nd.keys+sumL nd.vals:=rfl;omega
   have s:((Nd.size (Nd.cutA nd (i+1)) - 2:Nat):Int)=((Nd.size (Nd.cutA nd i) - 2:Nat):Int)+(((1:Nat):Int)+(((nd.keys[i]).length:Nat):Int))+(((1:Nat):Int)+(((nd.vals[i]'(by rw[f hl];exact a)).length:Nat):Int)):=by omega
   have:fL D n [.ptr A 0, .int .i64 (most:Nat), .int .i64 (L:Nat), .int .i64 ((Nd.size (Nd.cutA nd i) - 2:Nat):Int), .int .i64 (L:Nat), .int .i64 (i:Nat)] H'=jn (some (.norm [.ptr A 0, .int .i64 (most:Nat), .int .i64 (L:Nat), .int .i64 ((Nd.size (Nd.cutA nd (i+1)) - 2:Nat):Int), .int .i64 (i:Nat), .int .i64 (L:Nat), .int .i64 (i:Nat)],H')) (bN D n):=by
    rw[s];simp(disch:=omega) only[fL,eZ,m,jL o,z,C,q1,q2]
   rw[this,zAx];exact v
  | false=>
   rw[hl]at o;have hs:=size_inner hl (hp hl) a;have s:((Nd.size (Nd.cutA nd (i+1)) - 2:Nat):Int)=((Nd.size (Nd.cutA nd i) - 2:Nat):Int)+(((1:Nat):Int)+(((nd.keys[i]).length:Nat):Int))+((16:Nat):Int):=by omega
   have:fL D n [.ptr A 0, .int .i64 (most:Nat), .int .i64 (L:Nat), .int .i64 ((Nd.size (Nd.cutA nd i) - 2:Nat):Int), .int .i64 (L:Nat), .int .i64 (i:Nat)] H'=jn (some (.norm [.ptr A 0, .int .i64 (most:Nat), .int .i64 (L:Nat), .int .i64 ((Nd.size (Nd.cutA nd (i+1)) - 2:Nat):Int), .int .i64 (i:Nat), .int .i64 (L:Nat), .int .i64 (i:Nat)],H')) (bN D n):=by
    rw[s];simp(disch:=omega) only[fL,eZ,m,jL o,z,C]
   rw[this,zAx];exact v
 .have m: ¬((i:Nat):Int)< ((L:Nat):Int):=by omega
  have S:i=L:=by omega
  subst S;refine⟨.exit 0 [.int .i64 (i:Nat)],H', ?_,rfl, .inr ⟨rfl,J⟩⟩;simp only[fL,eZ,m]
theorem zIx (D:Dyn)(n:Nat)(W:200000000<=n){H:AH}(p:H.ok){v:AV}{nd:Nd.Node}(h:hU H v nd)(N:small nd)(y:Nd.shaped ltS nd=true)(Y:gK nd):
  ∃(k:Nat) (H':AH),f227 D n [v] H=some (.int .i64 (k:Nat),H')/\Prs H H'/\cutOk nd k/\hbnd nd k:=by
 have Z:=h;obtain⟨ks,vs,C,rfl,m,O,h3⟩:=h;have a0:=Nd.sumL_ge nd.keys;obtain⟨s1,s2,s3⟩:=id N;obtain⟨c1,c2⟩:=Y;have S:nd.leaf=true->nd.vals.length=nd.keys.length:=by
  intro hl;simp only[Nd.shaped,hl,if_true,zE,zR]at y;exact y.2.1.1
 have hp:nd.leaf=false->nd.kids.length=nd.keys.length+1:=by
  intro hl;simp only[Nd.shaped,hl,zL,qC,zE,zR]at y;exact y.2.1.2
 have q:Prs H (H.push (.cells [.bool nd.leaf,ks,vs,C] 119 1 false)):=(zRf p).push _;have T:(H.push (.cells [.bool nd.leaf,ks,vs,C] 119 1 false)).h.get H.next=some (.cells [.bool nd.leaf,ks,vs,C] 119 1 false):=zR8 _ _
 generalize i:H.push (.cells [.bool nd.leaf,ks,vs,C] 119 1 false)=H1 at q T;obtain⟨z,H2,o,rfl,U⟩:=WH D n q.ok (Z.prs q) N W;have a:=U.get q.ok T;have P:Prs H H2:=q.trans U;have s:=zM5 .i64 (((Nd.size nd:Nat):Int) - ((2:Nat):Int)) ((2:Nat):Int) (by omega);have L:Nd.size nd<=1000000000:=by simp only[Nd.size];omega
 have a1:=zAf nd;have V:IntKind.wrap .i64 ((((Nd.size nd:Nat):Int) - ((2:Nat):Int)).tdiv ((2:Nat):Int))=(((Nd.size nd - 2) / 2:Nat):Int):=by
  rw[show((Nd.size nd:Nat):Int) - ((2:Nat):Int)=((Nd.size nd - 2:Nat):Int)by omega,Int.tdiv_eq_ediv_of_nonneg (by omega)];rw[wrap_i64 (by omega) (by omega)];omega
 rw[V]at s
 cases hl:nd.leaf with
 | true=>
  obtain⟨x,t,f,rfl,F⟩:=zEI D n (m.prs P) (O.prs P) S hp a ((Nd.size nd - 2) / 2) (nd.keys.length - 1) (by omega) (by omega) L n (by omega);have hL:((nd.keys.length:Nat):Int) - ((1:Nat):Int)=((nd.keys.length - 1:Nat):Int):=by omega
  rw[hl]at a i o;rw[show Nd.size (Nd.cutA nd 0) - 2=0 by simp[Nd.cutA,hl,Nd.size,sumL]]at f;rcases F with⟨j,J,j2,rfl,u,K⟩ | ⟨rfl,u⟩
  .refine⟨j,t, ?_,P,⟨J,by rw[hl];simp only[if_true];omega⟩,u, .inr K⟩;simp(disch:=omega) only[f227,eZ,kT p,i,ZJ,zZ,hl,o,s,jL a,m.lnSl,hL,QQ,f]
  .refine⟨nd.keys.length - 1,t, ?_,P,⟨by omega,by rw[hl];simp only[if_true];omega⟩,by omega, .inl (by rw[hl];simp only[if_true];omega)⟩;simp(disch:=omega) only[f227,eZ,kT p,i,ZJ,zZ,hl,o,s,jL a,m.lnSl,hL,QQ,f,JG]
 | false=>
  have c3:3<=nd.keys.length:=by rcases c2 with h | h;rw[hl]at h;cases h;exact h
  obtain⟨x,t,f,rfl,F⟩:=zEI D n (m.prs P) (O.prs P) S hp a ((Nd.size nd - 2) / 2) (nd.keys.length - 2) (by omega) (by omega) L n (by omega);have hL:((nd.keys.length:Nat):Int) - ((1:Nat):Int) - ((1:Nat):Int)=((nd.keys.length - 2:Nat):Int):=by omega
  rw[hl]at a i o;rw[show Nd.size (Nd.cutA nd 0) - 2=16 by have a2:=hp hl;simp only[Nd.cutA,hl,zL,qC,Nd.size,List.take_zero,qA,yW,show sumL []=0 from rfl];omega]at f;rcases F with⟨j,J,j2,rfl,u,K⟩ | ⟨rfl,u⟩
  .refine⟨j,t, ?_,P,⟨J,by rw[hl];simp only[zL,qC];omega⟩,u, .inr K⟩;simp(disch:=omega) only[f227,eZ,kT p,i,ZJ,zZ,hl,o,s,jL a,m.lnSl,hL,QQ,f]
  .refine⟨nd.keys.length - 2,t, ?_,P,⟨by omega,by rw[hl];simp only[zL,qC];omega⟩,by omega, .inl (by rw[hl];simp only[zL,qC];omega)⟩;simp(disch:=omega) only[f227,eZ,kT p,i,ZJ,zZ,hl,o,s,jL a,m.lnSl,hL,QQ,f,JG]
open Go.Nd (cutA Q4)
theorem bD {k e n:Nat}{H H':AH}{v:AV}{l l':List AV}(h:kZ k e H v n l)(s:kZ k e H' v n l')(x:0<k)(lo hi t:Option AV):vY k v lo hi t H'=vY k v lo hi t H:=by
 have q: ∀l:List AV,l.length=n*k->kL l true k 0 1 k=n:=fun l j=>by
  simp only[kL,show((1 % 2).beq 0)=false from rfl,qH,yF,show Nat.beq 0 (1 / 2*k)=true from by simp,qN,zM,jX,j,jD];exact Nat.mul_div_cancel _ x
 have u: ∀(l:List AV) (g:Bool),kL l g k 0 (2*n) k=n:=fun l g=>by
  simp only[kL,show((2*n) % 2).beq 0=true by rw[jC];rfl,zM,yQ n (show 0<2 by omega)]
 rcases h with⟨j,⟨rfl,_⟩ | ⟨A,rfl,z,o⟩⟩ | ⟨j,A,J,g,rfl,z,o,F⟩
 .rfl
 .rcases s with⟨i,⟨a,_⟩ | ⟨p,a,m,f⟩⟩ | ⟨i,p,y,C,a,m,f,_⟩
  .cases a
  .simp only[AV.slice.injEq]at a;obtain⟨rfl,_⟩:=a;simp only[vY,o,f,q l j,q l' i]
  .simp only[AV.slice.injEq]at a;omega
 .rcases s with⟨i,⟨a,_⟩ | ⟨p,a,m,f⟩⟩ | ⟨i,p,y,C,a,m,f,_⟩
  .cases a
  .simp only[AV.slice.injEq]at a;omega
  .simp only[AV.slice.injEq]at a;obtain⟨rfl,_⟩:=a;simp only[vY,o,f,u]
theorem xU {H:AH}(a:H.ok){A o:Nat}{l:List AV}{e:TypeId}{x:AV}(h:H.h.get A=some (.cells l e 1 false))(f:isCell x=true)(i:o<l.length):
  ∃H',stN 1 (.ptr A o) x H=some (jO,H')/\H'.h.get A=some (.cells (l.set o x) e 1 false)/\Stp (fun B=>B=A) H H'/\H'.next=H.next:=
 ⟨_,dW h (by decide) f i,by rw[zRc,if_pos rfl],(zRf a).put (a.lt h) _ (.inr rfl),rfl⟩
theorem map_take (l:List Str)(k:Nat):(l.map S).take (k*1)=(l.take k).map S:=by simp
theorem map_drop (l:List Str)(k:Nat):(l.map S).drop (k*1)=(l.drop k).map S:=by simp
theorem XE: ∀(l:List Ptr) (k:Nat),(l.flatMap jR).take (k*3)=(l.take k).flatMap jR
 | _,0=>by simp
 | [],k+1=>by simp
 | p::l,k+1=>by
  have a:=XE l k;rw[show(k+1)*3=k*3+3 from by omega];show((jR p)++l.flatMap jR).take (k*3+3)=jR p++(l.take k).flatMap jR;rw[<-a];rfl
theorem XF: ∀(l:List Ptr) (k:Nat),(l.flatMap jR).drop (k*3)=(l.drop k).flatMap jR
 | _,0=>by simp
 | [],k+1=>by simp
 | p::l,k+1=>by
  have a:=XF l k;rw[show(k+1)*3=k*3+3 from by omega];show((jR p)++l.flatMap jR).drop (k*3+3)=(l.drop k).flatMap jR;rw[<-a];rfl
structure CutI (H0:AH)(A1 A2 A4:Nat)(H:AH)(l1 l2 l4:List AV):Prop where
 prs:Prs H0 H
 a1:H.h.get A1=some (.cells l1 119 1 false)
 a2:H.h.get A2=some (.cells l2 119 1 false)
 a4:H.h.get A4=some (.cells l4 119 1 false)
 o1:H0.next<=A1
 o2:A1<A2
 o4:A2<A4
theorem CutI.lt {H0 H:AH}{A1 A2 A4:Nat}{l1 a f:List AV}(h:CutI H0 A1 A2 A4 H l1 a f):A4<H.next:=h.prs.ok.lt h.a4
theorem CutI.step {H0 H H':AH}{A1 A2 A4:Nat}{l1 a f:List AV}(h:CutI H0 A1 A2 A4 H l1 a f)(s:Prs H H'):CutI H0 A1 A2 A4 H' l1 a f:=
 ⟨h.prs.trans s,s.get h.prs.ok h.a1,s.get h.prs.ok h.a2,s.get h.prs.ok h.a4,h.o1,h.o2,h.o4⟩
theorem CutI.st2 {H0 H:AH}{A1 A2 A4:Nat}{l1 f a:List AV}(h:CutI H0 A1 A2 A4 H l1 f a){o:Nat}{x:AV}(i:isCell x=true)(j:o<f.length):
  ∃H',stN 1 (.ptr A2 o) x H=some (jO,H')/\CutI H0 A1 A2 A4 H' l1 (f.set o x) a/\Stp (fun B=>B=A2) H H':=by
 obtain⟨H',e,g,s,n⟩:=xU h.prs.ok h.a2 i j;have:=h.o1;have:=h.o2;have:=h.o4;have a:=h.lt;exact⟨H',e,⟨h.prs.fresh s (fun B m=>by omega),by rw[s.keep _ (by omega) (by omega)];exact h.a1,g,by rw[s.keep _ a (by omega)];exact h.a4,h.o1,h.o2,h.o4⟩,s⟩
theorem CutI.st4 {H0 H:AH}{A1 A2 A4:Nat}{l1 f a:List AV}(h:CutI H0 A1 A2 A4 H l1 f a){o:Nat}{x:AV}(i:isCell x=true)(j:o<a.length):
  ∃H',stN 1 (.ptr A4 o) x H=some (jO,H')/\CutI H0 A1 A2 A4 H' l1 f (a.set o x)/\Stp (fun B=>B=A4) H H':=by
 obtain⟨H',e,g,s,n⟩:=xU h.prs.ok h.a4 i j;have:=h.o1;have:=h.o2;have:=h.o4;have a:=h.lt;exact⟨H',e,⟨h.prs.fresh s (fun B m=>by omega),by rw[s.keep _ (by omega) (by omega)];exact h.a1,by rw[s.keep _ (by omega) (by omega)];exact h.a2,g,h.o1,h.o2,h.o4⟩,s⟩
theorem CutI.all2 {H0 H:AH}{A1 A2 A4:Nat}{l1 f a l':List AV}(h:CutI H0 A1 A2 A4 H l1 f a)(hl:l'.length=f.length)(i:jP l'=true):
  ∃H',stN f.length (.ptr A2 0) (.agg l') H=some (jO,H')/\CutI H0 A1 A2 A4 H' l1 l' a/\Stp (fun B=>B=A2) H H':=by
 obtain⟨H',e,g,s,n⟩:=jW h.prs.ok h.a2 hl i;have:=h.o1;have:=h.o2;have:=h.o4;have a:=h.lt;exact⟨H',e,⟨h.prs.fresh s (fun B j=>by omega),by rw[s.keep _ (by omega) (by omega)];exact h.a1,g,by rw[s.keep _ a (by omega)];exact h.a4,h.o1,h.o2,h.o4⟩,s⟩
theorem CutI.all4 {H0 H:AH}{A1 A2 A4:Nat}{l1 f a l':List AV}(h:CutI H0 A1 A2 A4 H l1 f a)(hl:l'.length=a.length)(i:jP l'=true):
  ∃H',stN a.length (.ptr A4 0) (.agg l') H=some (jO,H')/\CutI H0 A1 A2 A4 H' l1 f l'/\Stp (fun B=>B=A4) H H':=by
 obtain⟨H',e,g,s,n⟩:=jW h.prs.ok h.a4 hl i;have:=h.o1;have:=h.o2;have:=h.o4;have a:=h.lt;exact⟨H',e,⟨h.prs.fresh s (fun B j=>by omega),by rw[s.keep _ (by omega) (by omega)];exact h.a1,by rw[s.keep _ (by omega) (by omega)];exact h.a2,g,h.o1,h.o2,h.o4⟩,s⟩
def xX (u:AV)(B:Nat):Prop:= ∃x ks vs a,u= .agg [x,ks,vs,a]/\(Blk ks B\/Blk vs B\/Blk a B)
theorem wO {x ks vs a:AV}{B:Nat} :xX (.agg [x,ks,vs,a]) B↔(Blk ks B\/Blk vs B\/Blk a B):=
 ⟨fun⟨_,_,_,_,e,h⟩=>by simp only[AV.agg.injEq,yE,and_true]at e;obtain⟨rfl,rfl,rfl,rfl⟩:=e;exact h,fun h=>⟨_,_,_,_,rfl,h⟩⟩
def vT (N:Nat)(H:AH)(v:AV)(nd:Nd.Node):Prop:=kC H v nd/\ ∀B,xX v B->N<=B
structure FrG (A k e:Nat)(H:AH)(v:AV)(n:Nat)(l:List AV):Prop where
 g:kZ k e H v n l
 f: ∀B,Blk v B->A<B
theorem FrG.prs {A k e n:Nat}{H H':AH}{v:AV}{l:List AV}(h:FrG A k e H v n l)(s:Prs H H'):FrG A k e H' v n l:=⟨h.g.mono s (fun _ _ x=>x),h.f⟩
theorem FrG.stp {A a k e n:Nat}{H H':AH}{v:AV}{l:List AV}(h:FrG A k e H v n l)(s:Stp (fun B=>B=a) H H')(j:a<=A):FrG A k e H' v n l:=
 ⟨h.g.mono s (fun B i e=>by have:=h.f B i;omega),h.f⟩
theorem zQZ (l:Str):aveq (S l) (S l)=true:=by simp[S,aveq]
theorem FrG.nil (A k e:Nat)(H:AH):FrG A k e H .nilSlice 0 []:=⟨.inl ⟨by simp, .inl ⟨rfl,rfl⟩⟩,fun B a=>(zRl.1 a).elim⟩
theorem FrG.isCell {A k e n:Nat}{H:AH}{v:AV}{l:List AV}(h:FrG A k e H v n l):isCell v=true:=h.g.isCell
theorem FrG.aveq {A k e n:Nat}{H:AH}{v:AV}{l:List AV}(h:FrG A k e H v n l):aveq v v=true:=kH h.g.row
structure FrN (A:Nat)(H:AH)(a b c:AV)(nd:Nd.Node):Prop where
 k:FrG A 1 9 H a nd.keys.length (nd.keys.map S)
 v:FrG A 1 9 H b nd.vals.length (nd.vals.map S)
 p:FrG A 3 42 H c nd.kids.length (nd.kids.flatMap jR)
theorem FrN.stp {A i:Nat}{H H':AH}{a b c:AV}{nd:Nd.Node}(h:FrN A H a b c nd)(s:Stp (fun B=>B=i) H H')(f:i<=A):FrN A H' a b c nd:=⟨h.k.stp s f,h.v.stp s f,h.p.stp s f⟩
theorem FrN.fresh {A N:Nat}{H:AH}{x a b c:AV}{nd:Nd.Node}(h:FrN A H a b c nd)(j:N<=A): ∀B,xX (.agg [x,a,b,c]) B->N<=B:=fun B i=>by
 rcases wO.1 i with k | k | k
 .have:=h.k.f B k;omega
 .have:=h.v.f B k;omega
 .have:=h.p.f B k;omega
theorem zJC (D:Dyn)(n:Nat){H0 H:AH}{A1 A2 A4 k:Nat}{b:Bool}{ks vs V j v2 m a f i:AV}{keys:List Str}{C nb:Nd.Node}
  (h:CutI H0 A1 A2 A4 H [.bool b,ks,vs,V] [.bool b,j,v2,m] [.bool b,a,f,i]) (t:Strs H ks keys) (hR: ∀B,Blk ks B->B<H0.next) (u:k<keys.length) (o:FrN A4 H j v2 m C) (hb:FrN A4 H a f i nb):
  ∃H',XS D n [.ptr A1 0, .ptr A2 0, .ptr A4 0, .int .i64 (k:Nat)] H=some (.ret (.tuple [.agg [.bool b,j,v2,m],S (keys.getD k []), .agg [.bool b,a,f,i], .int .i64 ((0:Nat):Int)]),H')/\Prs H0 H'/\FrN A4 H' j v2 m C/\FrN A4 H' a f i nb:=by
 have o1:=h.o1;have o2:=h.o2;have o4:=h.o4;obtain⟨q,q1,q2⟩:=t.at u;obtain⟨s,W,x,y⟩:=h.all2 (l':=[.bool b,j,v2,m]) rfl (YB _ _ _ _ o.k.isCell o.v.isCell o.p.isCell);have K:Strs s ks keys:=Rw.stp t y (fun B Y e=>by have:=hR B Y;omega);obtain⟨Z,N,O⟩:=K.at u;obtain rfl:q=Z:=by have:=q1 .i64 k rfl;rw[N .i64 k rfl]at this;cases this;rfl
 obtain⟨F,e2,z,J⟩:=x.all4 (l':=[.bool b,a,f,i]) rfl (YB _ _ _ _ hb.k.isCell hb.v.isCell hb.p.isCell);have T:stN 4 (.ptr A2 0) (.agg [.bool b,j,v2,m]) H=some (jO,s):=W;have U:stN 4 (.ptr A4 0) (.agg [.bool b,a,f,i]) s=some (jO,F):=e2;have L:aveq (.agg [.bool b,a,f,i]) (.agg [.bool b,a,f,i])=true:=by simp[Eng.aveq,YA,hb.k.aveq,hb.v.aveq,hb.p.aveq]
 have hg:keys.getD k []=keys[k]:=by rw[qE,zJ u];rfl
 have l4:ldN 4 (.ptr A4 0) s=some (.agg [.bool b,a,f,i]):=by rw[jQ x.a4];rfl
 refine⟨F, ?_,z.prs,(o.stp y (by omega)).stp J (by omega),(hb.stp y (by omega)).stp J (by omega)⟩;rw[hg];simp(disch:=omega) only[XS,eZ,jQ h.a2,jQ h.a4,jL h.a1,q1,q2,T,U,wC (jL x.a1 1) (kH t),wC O (zQZ _),wC l4 L,jQ z.a2,jQ z.a4,ZJ,zZ]
theorem zIv (D:Dyn)(n:Nat){H:AH}(q:H.ok){v:AV}{l:List Str}(h:kZ 1 9 H v l.length (l.map S))(hl:l.length<=1000000000){i:Nat}(j:0<i)(hi:i<=l.length)(A:Nat)(y:A<H.next):
  ∃r a H',vY 1 v none (some (.int .i64 (i:Nat))) (some (.int .i64 (i:Nat))) H=some r/\f108 D n [r] H=some (a,H')/\Prs H H'/\FrG A 1 9 H' a (l.take i).length ((l.take i).map S):=by
 obtain⟨r,s,w,m⟩:=zAd h (by decide) hi .i64 .i64;rw[map_take]at w;have o:(l.take i).length=i:=by rw[qA];omega
 have t:Strs H r (l.take i):=by rw[Strs,o];exact w
 obtain⟨a,H',u,p,g,f⟩:=Y2 D n q t (m j).1 (m j).2 (by omega);exact⟨r,a,H',s,u,p,g,fun B x=>by have:=f B x;omega⟩
theorem zIg (D:Dyn)(n:Nat){H:AH}(m:H.ok){v:AV}{l:List Str}(h:kZ 1 9 H v l.length (l.map S))(hl:l.length<=1000000000){i:Nat}(hi:i<l.length)(A:Nat)(y:A<H.next):
  ∃r a H',aveq r r=true/\vY 1 v (some (.int .i64 (i:Nat))) none none H=some r/\f108 D n [r] H=some (a,H')/\Prs H H'/\FrG A 1 9 H' a (l.drop i).length ((l.drop i).map S):=by
 obtain⟨r,o,w,q,s⟩:=YL h (by decide) hi .i64;rw[map_drop]at w;have j:(l.drop i).length=l.length - i:=by rw[qK]
 have t:Strs H r (l.drop i):=by rw[Strs,j];exact w
 obtain⟨a,H',u,p,g,f⟩:=Y2 D n m t q s (by omega);exact⟨r,a,H',kH w,o,u,p,g,fun B x=>by have:=f B x;omega⟩
theorem zQx (D:Dyn)(n:Nat){H:AH}(q:H.ok){v:AV}{l:List Ptr}(h:kZ 3 42 H v l.length (l.flatMap jR))(hl:l.length<=1000000000){i:Nat}(j:0<i)(hi:i<=l.length)(A:Nat)(y:A<H.next):
  ∃r a H',vY 3 v none (some (.int .i64 (i:Nat))) (some (.int .i64 (i:Nat))) H=some r/\f81 D n [r] H=some (a,H')/\Prs H H'/\FrG A 3 42 H' a (l.take i).length ((l.take i).flatMap jR):=by
 obtain⟨r,s,w,m⟩:=zAd h (by decide) hi .i64 .i64;rw[XE]at w;have o:(l.take i).length=i:=by rw[qA];omega
 have t:vS H r (l.take i):=by rw[vS,o];exact w
 obtain⟨a,H',u,p,g,f⟩:=V8 D n q t (m j).1 (m j).2 (by omega);exact⟨r,a,H',s,u,p,g,fun B x=>by have:=f B x;omega⟩
theorem zQh (D:Dyn)(n:Nat){H:AH}(m:H.ok){v:AV}{l:List Ptr}(h:kZ 3 42 H v l.length (l.flatMap jR))(hl:l.length<=1000000000){i:Nat}(hi:i<l.length)(A:Nat)(y:A<H.next):
  ∃r a H',aveq r r=true/\vY 3 v (some (.int .i64 (i:Nat))) none none H=some r/\f81 D n [r] H=some (a,H')/\Prs H H'/\FrG A 3 42 H' a (l.drop i).length ((l.drop i).flatMap jR):=by
 obtain⟨r,o,w,q,s⟩:=YL h (by decide) hi .i64;rw[XF]at w;have j:(l.drop i).length=l.length - i:=by rw[qK]
 have t:vS H r (l.drop i):=by rw[vS,j];exact w
 obtain⟨a,H',u,p,g,f⟩:=V8 D n m t q s (by omega);exact⟨r,a,H',kH w,o,u,p,g,fun B x=>by have:=f B x;omega⟩
theorem zDL (D:Dyn)(n:Nat)(N:200000000<=n){H:AH}(v:H.ok){b:Bool}{ks vs f:AV}{nd:Nd.Node}(hb:nd.leaf=b)(h:hU H (.agg [.bool b,ks,vs,f]) nd)(O:small nd):
  ∃a i j q A1 A2 A4,(∀K,bA (some (AObj.cells [.bool b,ks,vs,f] 119 1 false,fun A=>AV.ptr A 0)) H K=K (.ptr A1 0) a)/\(∀K,bA (some (AObj.cells [.bool false, .nilSlice, .nilSlice, .nilSlice] 119 1 false,fun A=>AV.ptr A 0)) a K=K (.ptr A2 0) i)/\
   (∀K,bA (some (AObj.cells [.bool false, .nilSlice, .nilSlice, .nilSlice] 119 1 false,fun A=>AV.ptr A 0)) i K=K (.ptr A4 0) j)/\f109 D n [.agg [.bool b,ks,vs,f]] j=some (.bool (Nd.shaped ltS nd),q)/\
   CutI H A1 A2 A4 j [.bool b,ks,vs,f] [.bool false, .nilSlice, .nilSlice, .nilSlice] [.bool false, .nilSlice, .nilSlice, .nilSlice]/\CutI H A1 A2 A4 q [.bool b,ks,vs,f] [.bool false, .nilSlice, .nilSlice, .nilSlice] [.bool false, .nilSlice, .nilSlice, .nilSlice]:=by
 have o:Prs H (H.push (.cells [.bool b,ks,vs,f] 119 1 false)):=(zRf v).push _;have x:(H.push (.cells [.bool b,ks,vs,f] 119 1 false)).h.get H.next=some (.cells [.bool b,ks,vs,f] 119 1 false):=zR8 _ _
 have S:(H.push (.cells [.bool b,ks,vs,f] 119 1 false)).next=H.next+1:=rfl
 generalize F:H.push (.cells [.bool b,ks,vs,f] 119 1 false)=a at o x S;have m:Prs a (a.push (.cells [.bool false, .nilSlice, .nilSlice, .nilSlice] 119 1 false)):=(zRf o.ok).push _;have y:(a.push (.cells [.bool false, .nilSlice, .nilSlice, .nilSlice] 119 1 false)).h.get a.next=some (.cells [.bool false, .nilSlice, .nilSlice, .nilSlice] 119 1 false):=zR8 _ _
 have T:(a.push (.cells [.bool false, .nilSlice, .nilSlice, .nilSlice] 119 1 false)).next=a.next+1:=rfl
 have s:=m.get o.ok x;generalize J:a.push (.cells [.bool false, .nilSlice, .nilSlice, .nilSlice] 119 1 false)=i at m y T s;have p:Prs i (i.push (.cells [.bool false, .nilSlice, .nilSlice, .nilSlice] 119 1 false)):=(zRf m.ok).push _;have z:(i.push (.cells [.bool false, .nilSlice, .nilSlice, .nilSlice] 119 1 false)).h.get i.next=some (.cells [.bool false, .nilSlice, .nilSlice, .nilSlice] 119 1 false):=zR8 _ _
 have t:=p.get m.ok s;have u:=p.get m.ok y;generalize L:i.push (.cells [.bool false, .nilSlice, .nilSlice, .nilSlice] 119 1 false)=j at p z t u;have C:Prs H j:=(o.trans m).trans p;obtain⟨q,U,V⟩:=bE D n p.ok (h.prs C) O N;have c3:CutI H H.next a.next i.next j [.bool b,ks,vs,f] [.bool false, .nilSlice, .nilSlice, .nilSlice] [.bool false, .nilSlice, .nilSlice, .nilSlice]:=⟨C,t,u,z,by omega,by omega,by omega⟩
 refine⟨a,i,j,q,H.next,a.next,i.next,fun K=> ?_,fun K=> ?_,fun K=> ?_,U,c3,c3.step V⟩
 .simp only[eZ,kT v,F]
 .simp only[eZ,kT o.ok,J]
 .simp only[eZ,kT m.ok,L]
theorem zP0 (D:Dyn)(n:Nat)(hn:200000000<=n){H:AH}(hk:H.ok){v:AV}{nd:Nd.Node}(h:kC H v nd)(U:small nd)(F:Nd.shaped ltS nd=true)(hc:gK nd)(hl:nd.leaf=true):
  ∃k va vb H',f213 D n [v] H=some (.tuple [va,S (nd.keys.getD k []),vb, .int .i64 ((0:Nat):Int)],H')/\Prs H H'/\vT H.next H' va (cutA nd k)/\vT H.next H' vb (Q4 nd k)/\cutOk nd k/\hbnd nd k:=by
 have V:=h.node;obtain⟨ks,vs,ps,rfl,W,h2,h3⟩:=h;rw[hl]at V;have d2:=Nd.sumL_ge nd.keys;have d3:nd.vals.length=nd.keys.length:=by
  simp only[Nd.shaped,hl,if_true,zE,zR]at F;exact F.2.1.1
 obtain⟨s1,s2,s3⟩:=id U;obtain⟨c1,c2⟩:=id hc;obtain⟨H1,H2,H3,H4,A1,A2,A4,b1,b2,b3,e4,i3,u⟩:=zDL D n hn hk hl V U;obtain⟨k,H5,e5,p5,⟨Y,k2⟩,kb⟩:=zIx D n hn u.prs.ok (V.prs u.prs) U F hc;simp only[hl,if_true]at k2;have i5:=u.step p5;obtain⟨H6,e6,i6,t6⟩:=i5.st2 (o:=0) (x:= .bool true) rfl (by simp);obtain⟨H7,e7,y,t7⟩:=i6.st4 (o:=0) (x:= .bool true) rfl (by simp);have m {H':AH} (p:Prs H H'):=W.mono p (fun _ _ x=>x);have m2 {H':AH} (p:Prs H H'):=h2.mono p (fun _ _ x=>x);obtain⟨r8,z,H8,c8,e8,p8,f8⟩:=zIv D n y.prs.ok (m y.prs) (by omega) Y (by omega) A4 y.lt;have i8:=y.step p8;obtain⟨H9,e9,C,t9⟩:=i8.st2 (o:=1) (x:=z) f8.isCell (by simp);have f9:=f8.stp t9 (by have:=i8.o4;omega);obtain⟨d4,j,d5,_,a6,a7,Z,f10⟩:=zIg D n C.prs.ok (m C.prs) (by omega) (show k< _ by omega) A4 C.lt;have a8:=C.step Z;obtain⟨a9,b0,a,a0⟩:=a8.st4 (o:=1) (x:=j) f10.isCell (by simp);have b4:=f10.stp a0 (by omega);obtain⟨d6,q,d7,b5,b6,T,a2⟩:=zIv D n a.prs.ok (m2 a.prs) (by omega) Y (by omega) A4 a.lt;have f:=a.step T;obtain⟨b7,s,d8,b8,a3,b9,J,a4⟩:=zIg D n f.prs.ok (m2 f.prs) (by omega) (show k< _ by omega) A4 f.lt;have a5:vY 1 vs (some (.int .i64 (k:Nat))) none none a9=some b7:=by rw[bD (m2 f.prs) (m2 a.prs) (by decide)];exact a3
 have c0:=f.step J;obtain⟨d9,c3,c4,K⟩:=c0.st2 (o:=2) (x:=q) a2.isCell (by simp);obtain⟨i,c5,t,L⟩:=c4.st4 (o:=2) (x:=s) a4.isCell (by simp);have o4:=t.o4;have h24:=t.o1;have e0:=t.o2;have F8:FrG A4 1 9 i z _ _:=(((((f9.prs Z).stp a0 (by omega)).prs T).prs J).stp K (by omega)).stp L (by omega);have c6:FrG A4 1 9 i j _ _:=(((b4.prs T).prs J).stp K (by omega)).stp L (by omega);have c7:FrG A4 1 9 i q _ _:=((a2.prs J).stp K (by omega)).stp L (by omega);have c9:FrG A4 1 9 i s _ _:=(a4.stp K (by omega)).stp L (by omega);have na:FrN A4 i z q .nilSlice (cutA nd k):=by
  simp only[cutA,hl,if_true];exact⟨F8,c7,FrG.nil ..⟩
 have nb:FrN A4 i j s .nilSlice (Q4 nd k):=by
  simp only[Q4,hl,if_true];exact⟨c6,c9,FrG.nil ..⟩
 obtain⟨d0,d1,P,N,O⟩:=zJC D n t ((m t.prs).row) (fun B hB=>W.lt hB) (show k<nd.keys.length by omega) na nb;refine⟨k, .agg [.bool true,z,q, .nilSlice], .agg [.bool true,j,s, .nilSlice],d0, ?_,P, ?_, ?_,⟨Y,by rw[hl];simp only[if_true];omega⟩,kb⟩
 .have t2: ¬((nd.keys.length:Nat):Int)< ((2:Nat):Int):=by omega
  simp(maxSteps:=999999)(disch:=omega) only[f213,eZ,hl,b1,b2,b3,jQ i3.a1,jQ u.a1,ZJ,zZ,e4,F,jL u.a1,W.row.lnSl,t2,e5,jL i5.a1,e6,wC (jL i6.a1 0) (zCJ _),e7,jL y.a1,c8,e8,e9,jL C.a1,a6,a7,b0,jL a.a1,b5,a5,b6,wC (jL f.a1 2) (kH h2.row),wC a3 b8,b9,c3,c5,d1]
 .exact⟨⟨z,q, .nilSlice,by simp only[cutA,hl,if_true],N.k.g,N.v.g,N.p.g⟩,N.fresh (by omega)⟩
 .exact⟨⟨j,s, .nilSlice,by simp only[Q4,hl,if_true],O.k.g,O.v.g,O.p.g⟩,O.fresh (by omega)⟩
theorem zLM (D:Dyn)(n:Nat)(hn:200000000<=n){H:AH}(hk:H.ok){v:AV}{nd:Nd.Node}(h:kC H v nd)(V:small nd)(F:Nd.shaped ltS nd=true)(hc:gK nd)(hl:nd.leaf=false):
  ∃k va vb H',f213 D n [v] H=some (.tuple [va,S (nd.keys.getD k []),vb, .int .i64 ((0:Nat):Int)],H')/\Prs H H'/\vT H.next H' va (cutA nd k)/\vT H.next H' vb (Q4 nd k)/\cutOk nd k/\hbnd nd k:=by
 have W:=h.node;obtain⟨ks,vs,ps,rfl,Y,h2,h3⟩:=h;rw[hl]at W;have d1:=Nd.sumL_ge nd.keys;have d2:nd.kids.length=nd.keys.length+1:=by
  simp only[Nd.shaped,hl,zL,qC,zE,zR]at F;exact F.2.1.2
 obtain⟨s1,s2,s3⟩:=id V;obtain⟨c1,c2⟩:=id hc;obtain⟨H1,H2,H3,H4,A1,A2,A4,b1,b2,b3,e4,i3,u⟩:=zDL D n hn hk hl W V;obtain⟨k,H5,e5,p5,⟨k1,k2⟩,kb⟩:=zIx D n hn u.prs.ok (W.prs u.prs) V F hc;simp only[hl,zL,qC]at k2;have i5:=u.step p5;obtain⟨H6,e6,i6,t6⟩:=i5.st2 (o:=0) (x:= .bool false) rfl (by simp);obtain⟨H7,e7,y,t7⟩:=i6.st4 (o:=0) (x:= .bool false) rfl (by simp);have m {H':AH} (p:Prs H H'):=Y.mono p (fun _ _ x=>x);have m2 {H':AH} (p:Prs H H'):=h3.mono p (fun _ _ x=>x);obtain⟨r8,z,H8,c8,e8,p8,f8⟩:=zIv D n y.prs.ok (m y.prs) (by omega) k1 (by omega) A4 y.lt;have i8:=y.step p8;obtain⟨H9,e9,C,t9⟩:=i8.st2 (o:=1) (x:=z) f8.isCell (by simp);have f9:=f8.stp t9 (by have:=i8.o4;omega);obtain⟨d3,j,d4,_,a0,a7,a2,f10⟩:=zIg D n C.prs.ok (m C.prs) (by omega) (show k+1< _ by omega) A4 C.lt;have a8:=C.step a2;obtain⟨a9,b0,a,a3⟩:=a8.st4 (o:=1) (x:=j) f10.isCell (by simp);have b4:=f10.stp a3 (by omega);obtain⟨d5,q,d6,a4,b5,T,a5⟩:=zQx D n a.prs.ok (m2 a.prs) (by omega) (show 0<k+1 by omega) (by omega) A4 a.lt;have f:=a.step T;obtain⟨b6,s,d7,b7,U,b8,J,a6⟩:=zQh D n f.prs.ok (m2 f.prs) (by omega) (show k+1< _ by omega) A4 f.lt;have Z:vY 3 ps (some (.int .i64 ((k+1:Nat):Int))) none none a9=some b6:=by rw[bD (m2 f.prs) (m2 a.prs) (by decide)];exact U
 have b9:=f.step J;obtain⟨d8,c0,c3,K⟩:=b9.st2 (o:=3) (x:=q) a5.isCell (by simp);obtain⟨i,c4,t,L⟩:=c3.st4 (o:=3) (x:=s) a6.isCell (by simp);simp only[yG]at a0 a4 U Z;have o4:=t.o4;have h24:=t.o1;have d9:=t.o2;have F8:FrG A4 1 9 i z _ _:=(((((f9.prs a2).stp a3 (by omega)).prs T).prs J).stp K (by omega)).stp L (by omega);have c5:FrG A4 1 9 i j _ _:=(((b4.prs T).prs J).stp K (by omega)).stp L (by omega);have c6:FrG A4 3 42 i q _ _:=((a5.prs J).stp K (by omega)).stp L (by omega);have c7:FrG A4 3 42 i s _ _:=(a6.stp K (by omega)).stp L (by omega);have na:FrN A4 i z .nilSlice q (cutA nd k):=by
  simp only[cutA,hl,zL,qC];exact⟨F8,FrG.nil ..,c6⟩
 have nb:FrN A4 i j .nilSlice s (Q4 nd k):=by
  simp only[Q4,hl,zL,qC];exact⟨c5,FrG.nil ..,c7⟩
 obtain⟨c9,d0,P,N,O⟩:=zJC D n t ((m t.prs).row) (fun B hB=>Y.lt hB) (show k<nd.keys.length by omega) na nb;refine⟨k, .agg [.bool false,z, .nilSlice,q], .agg [.bool false,j, .nilSlice,s],c9, ?_,P, ?_, ?_,⟨k1,by rw[hl];simp only[zL,qC];omega⟩,kb⟩
 .have t2: ¬((nd.keys.length:Nat):Int)< ((2:Nat):Int):=by omega
  have t3: ¬((nd.keys.length:Nat):Int)< ((3:Nat):Int):=by omega
  simp(maxSteps:=999999)(disch:=omega) only[f213,eZ,hl,b1,b2,b3,jQ i3.a1,jQ u.a1,ZJ,zZ,e4,F,jL u.a1,Y.row.lnSl,t2,t3,e5,jL i5.a1,e6,wC (jL i6.a1 0) (zCJ _),e7,jL y.a1,c8,e8,e9,jL C.a1,a0,a7,b0,jL a.a1,a4,Z,b5,wC (jL f.a1 3) (kH h3.row),wC U b7,b8,c0,c4,d0]
 .exact⟨⟨z, .nilSlice,q,by simp only[cutA,hl,zL,qC],N.k.g,N.v.g,N.p.g⟩,N.fresh (by omega)⟩
 .exact⟨⟨j, .nilSlice,s,by simp only[Q4,hl,zL,qC],O.k.g,O.v.g,O.p.g⟩,O.fresh (by omega)⟩
end Go.Eng.Sh
end
section
namespace Go.Eng
namespace T
variable {α:Type}
noncomputable def st (t:T α)(n:Nat)(a:α):T α:=(T.set 40 t n a).getD .leaf
end T
theorem Stp.ld1 {S:Nat->Prop}{H H':AH}(s:Stp S H H'){A:Nat}(o:Nat)(h:A<H.next)(a: ¬S A):Eng.ld1 (.ptr A o) H'=Eng.ld1 (.ptr A o) H:=by simp only[Eng.ld1,s.keep A h a]
theorem Stp.ldN {S:Nat->Prop}{H H':AH}(s:Stp S H H'){A:Nat}(o n:Nat)(h:A<H.next)(a: ¬S A):Eng.ldN n (.ptr A o) H'=Eng.ldN n (.ptr A o) H:=by simp only[Eng.ldN,s.keep A h a]
theorem Prs.l1 {H H':AH}(s:Prs H H')(A:Nat)(o:Nat)(h:A<H.next):Eng.ld1 (.ptr A o) H'=Eng.ld1 (.ptr A o) H:=s.ld1 o h (fun x=>x)
theorem Prs.b1 {H H':AH}{l:List AV}{e sz:Nat}{g:Bool}(s:Prs (H.push (.cells l e sz g)) H')(o:Nat):Eng.ld1 (.ptr H.next o) H'=l[o]? :=by
 rw[s.l1 _ _ (by rw[zR9];omega),K8]
theorem Prs.refl {H:AH}(h:H.ok):Prs H H:=zRf h
def Rws (k:Nat)(H:AH):List AV->List (Nat×List AV)->Prop
 | [],[]=>True
 | v::vs,r::rs=>(Rw k H v r.1 r.2/\jP r.2=true)/\Rws k H vs rs
 | _,_=>False
theorem Rws.len {k:Nat}{H:AH} : ∀ {vs:List AV} {rs:List (Nat×List AV)},Rws k H vs rs->vs.length=rs.length
 | [],[],_=>rfl
 | _::vs,_::rs,h=>by simp only[zW,Rws.len h.2]
 | [],_::_,h=>h.elim
 | _::_,[],h=>h.elim
theorem Rws.at {k:Nat}{H:AH} : ∀ {vs:List AV} {rs:List (Nat×List AV)} {i:Nat} {x:AV},Rws k H vs rs->vs[i]? =some x-> ∃r,rs[i]? =some r/\Rw k H x r.1 r.2/\jP r.2=true
 | [],[],_,_,_,h=>by simp at h
 | _::vs,r::rs,0,x,h,hx=>by simp only[List.getElem?_cons_zero,zB]at hx;subst hx;exact⟨r,rfl,h.1⟩
 | _::vs,_::rs,i+1,x,h,hx=>by simp only[yV]at hx⊢;exact Rws.at h.2 hx
 | [],_::_,_,_,h,_=>h.elim
 | _::_,[],_,_,h,_=>h.elim
theorem Rws.prs {k:Nat}{H H':AH}(s:Prs H H'): ∀ {vs:List AV} {rs:List (Nat×List AV)},Rws k H vs rs->Rws k H' vs rs
 | [],[],_=>trivial
 | _::vs,_::rs,h=>⟨⟨h.1.1.prs s,h.1.2⟩,Rws.prs s h.2⟩
 | [],_::_,h=>h.elim
 | _::_,[],h=>h.elim
def gZ (rs:List (Nat×List AV)):Nat:=(rs.map Prod.fst).sum
def zGh (rs:List (Nat×List AV)):List AV:=rs.flatMap Prod.snd
theorem QC {rs:List (Nat×List AV)}{i:Nat}{r:Nat×List AV}(h:rs[i]? =some r):gZ (rs.take (i+1))=gZ (rs.take i)+r.1:=by
 obtain⟨hi,rfl⟩:=qR.1 h;rw[qJ hi];simp only[gZ,List.map_append,List.sum_append,yH,List.map_nil,List.sum_cons,List.sum_nil,Nat.add_zero]
theorem zCC {rs:List (Nat×List AV)}{i:Nat}{r:Nat×List AV}(h:rs[i]? =some r):zGh (rs.take (i+1))=zGh (rs.take i)++r.2:=by
 obtain⟨hi,rfl⟩:=qR.1 h;rw[qJ hi];simp only[zGh,yZ,qG,List.flatMap_nil,qX]
theorem YH (rs:List (Nat×List AV))(i:Nat):gZ (rs.take i)<=gZ rs:=by
 have:rs=rs.take i++rs.drop i:=(qM i rs).symm
 conv=>rhs;rw[this]
 simp only[gZ,List.map_append,List.sum_append];omega
def Part (k e:Nat)(H:AH)(v:AV)(n:Nat)(l:List AV)(a:Nat):Prop:=
 (a=0/\v= .nilSlice/\n=0/\l=[])\/ ∃A rest,v= .slice A 0 n 1/\A<H.next/\H.h.get A=some (.cells (l++rest) e k true)/\l.length=n*k/\rest.length=(a - n)*k/\n<=a
theorem Part.own {k e:Nat}{H:AH}{v:AV}{n:Nat}{l:List AV}(h:Part k e H v n l n):Own k e H v n l:=by
 rcases h with⟨rfl,rfl,_,rfl⟩ | ⟨A,rest,rfl,f,a,hl,hr,_⟩
 .exact zRo _ _ _
 .have:rest=[]:=zV (by rw[hr,Nat.sub_self,Nat.zero_mul]);subst this;rw[qX]at a;exact⟨hl, .inr ⟨A,rfl,f,a⟩⟩
theorem Part.app {k e bytes:Nat}{H:AH}{v s:AV}{n m a:Nat}{l new:List AV}(p:H.ok)(j:0<k)(h:Part k e H v n l a)(q:srcOf k s H=some (m,new))(hm:new.length=m*k)(t:jP new=true)(f:n+m<=a):
  ∃i H',apP e k bytes v s H=some (i,H')/\Part k e H' i (n+m) (l++new) a/\Stp (Blk v) H H'/\H'.next=H.next/\ ∀B,Blk i B->Blk v B:=by
 rcases h with⟨rfl,rfl,rfl,rfl⟩ | ⟨A,rest,rfl,u,C,hl,hr,L⟩
 .obtain rfl:m=0:=by omega
  have:new=[]:=zV (by simpa using hm);subst this;exact⟨.nilSlice,H,by simp[apP,q,t,app1], .inl ⟨rfl,rfl,rfl,rfl⟩,zRf p,rfl,fun _ x=>x⟩
 .have o:(l++rest).length=a*k:=by rw[zT,hl,hr,<-j7];congr 1;omega
  have y:kL (l++rest) true k 0 1 k=a:=by
   simp only[kL,show((1 % 2).beq 0)=false from rfl,qH,yF,show Nat.beq 0 (1 / 2*k)=true from by simp,qN,zM,jX,o,jD];exact Nat.mul_div_cancel _ j
  have b1:Nat.ble (n+m) a=true:=by rw[qV];exact f
  have F:Nat.blt 0 k=true:=by rw[qD];exact j
  have K:m*k<=rest.length:=by rw[hr];exact yN _ (by omega)
  have z:setAt (l++rest) (0+n*k) new=some (l++new++rest.drop (m*k)):=by
   rw[xD (by rw[o,hm,yW,<-j7];exact yN _ f),yW,hm];congr 1;rw[List.take_append_of_le_length (by omega),zX (by omega),List.drop_append,<-hl,List.drop_of_length_le (by omega),qS];congr 2;omega
  refine⟨.slice A 0 (n+m) 1,H.put A (.cells (l++new++rest.drop (m*k)) e k true), ?_, .inr ⟨A,rest.drop (m*k),rfl,u,by rw[zRc,if_pos rfl],by rw[zT,hl,hm,j7],by rw[qK,hr,<-Nat.sub_mul];congr 1;omega,f⟩,(zRf p).put u _ (.inr (zRd.2 rfl)),rfl,fun B J=>zRd.2 (zRd.1 J)⟩;simp only[apP,q,t,zM,app1,C,zGu,y,b1,F,z,zCN,kO,kD]
theorem Part.stp {k e:Nat}{S:Nat->Prop}{H H':AH}{v:AV}{n a:Nat}{l:List AV}(h:Part k e H v n l a)(s:Stp S H H')(i: ∀A,Blk v A-> ¬S A):Part k e H' v n l a:=by
 rcases h with h | ⟨A,rest,rfl,f,j,hr⟩
 .exact .inl h
 .exact .inr ⟨A,rest,rfl,qQ f s.next,by rw[s.keep A f (i A (zRd.2 rfl))];exact j,hr⟩
theorem zHt (z:AV): ∀m:Nat,(rep m [z]).length=m
 | 0=>rfl
 | m+1=>by simp[rep,zHt z m]
theorem zEk (a b c:AV): ∀m:Nat,(rep m [a,b,c]).length=m*3
 | 0=>rfl
 | m+1=>by simp only[rep,zT,zEk a b c m,zW,yJ];omega
theorem zMN {k e bytes m:Nat}{H:AH}{z:List AV}(o:H.ok)(a:0<k)(f:(rep m z).length=m*k)(s:0<m)(hm:m<=1000000000)(hb:bytes<=1000):
  apZ e k bytes z .nilSlice (.int .i64 ((m:Nat):Int)) H=some (.slice H.next 0 m 1,H.push (.cells (rep m z) e k true))/\
  vY k (.slice H.next 0 m 1) none (some (.int .i64 ((0:Nat):Int))) none (H.push (.cells (rep m z) e k true))=some (.slice H.next 0 0 1)/\
  Part k e (H.push (.cells (rep m z) e k true)) (.slice H.next 0 0 1) 0 [] m:=by
 have b1:Nat.ble (m*bytes) 281474976710656=true:=by
  rw[qV];exact qP (Nat.mul_le_mul hm hb) (by decide)
 have b2:Nat.blt m 4611686018427387904=true:=by rw[qD];omega
 have p:Nat.beq m 0=false:=by rw[y8];intro h;have:=Nat.eq_of_beq_eq_true h;omega
 have i:kL (rep m z) true k 0 1 k=m:=by
  simp only[kL,show((1 % 2).beq 0)=false from rfl,qH,yF,show Nat.beq 0 (1 / 2*k)=true from by simp,qN,zM,jX,f,jD];exact Nat.mul_div_cancel _ a
 have j:Nat.blt 0 k=true:=by rw[qD];exact a
 refine⟨?_, ?_, .inr ⟨H.next,rep m z,rfl,Nat.lt_succ_self _,zR8 _ _,by simp,by simpa using f,by omega⟩⟩
 .show apZ e k bytes z .nilSlice (.int .i64 (Int.ofNat m)) H=_;simp only[apZ,b1,b2,qN,zM,app1,show m.beq 0=false from p,qH,vO,aH hm hb,aW,qS,ZO o,kD]
 .have q:=kK .i64 (z:=((0:Nat):Int)) (by omega);simp only[vY,kX,q,zR8,j,zM];simp[K1,i,kD,show Nat.ble 0 m=true from by rw[qV];omega,show Nat.ble 0 0=true from rfl,show Nat.beq 1 0=false from rfl]
end Go.Eng
namespace Go.Eng.Sh
open Go.Nd (Ptr sumL cutOk cutA Q4)
theorem zLq (D:Dyn)(n m:Nat)(hm:m<=1000000000){H:AH}(a:H.ok):
  ∃v H',f180 D n [.nilSlice, .int .i64 (m:Nat)] H=some (v,H')/\Prs H H'/\Part 1 9 H' v 0 [] m/\ ∀B,Blk v B->H.next<=B:=by
 have h:zPd X 117 .nilSlice=some (.int .i64 ((0:Nat):Int)):=rfl;have i:lnSl .nilSlice=some (.int .i64 ((0:Nat):Int)):=rfl;have s:vY 1 .nilSlice none (some (.int .i64 ((0:Nat):Int))) none H=some .nilSlice:=rfl;have j: ¬((m:Nat):Int)< ((0:Nat):Int):=by omega
 by_cases hp:m=0
 .subst hp;refine⟨.nilSlice,H, ?_,zRf a, .inl ⟨rfl,rfl,rfl,rfl⟩,fun B f=>(zRl.1 f).elim⟩;simp(disch:=omega) only[f180,XT,JI,eZ,j,h,i,Int.sub_zero,yA,Int.sub_self]
 .obtain⟨t,u,p⟩:=zMN (k:=1) (e:=9) (bytes:=16) (m:=m) (z:=[.str 0 0]) a (by decide) (by rw[zHt];omega) (by omega) hm (by decide);have o:((m:Nat):Int) - (((0:Nat):Int) - ((0:Nat):Int))=((m:Nat):Int):=by omega
  have q:((0:Nat):Int)< ((m:Nat):Int):=by omega
  refine⟨_,_, ?_,(zRf a).push _,p,fun B f=>by rw[zRd.1 f];exact zQ _⟩;simp(disch:=omega) only[f180,XT,JI,eZ,j,h,i,s,o,q,t,u]
theorem zLr (D:Dyn)(n m:Nat)(hm:m<=1000000000){H:AH}(a:H.ok):
  ∃v H',f214 D n [.nilSlice, .int .i64 (m:Nat)] H=some (v,H')/\Prs H H'/\Part 3 42 H' v 0 [] m/\ ∀B,Blk v B->H.next<=B:=by
 have h:zPd X 50 .nilSlice=some (.int .i64 ((0:Nat):Int)):=rfl;have i:lnSl .nilSlice=some (.int .i64 ((0:Nat):Int)):=rfl;have u:vY 3 .nilSlice none (some (.int .i64 ((0:Nat):Int))) none H=some .nilSlice:=rfl;have j: ¬((m:Nat):Int)< ((0:Nat):Int):=by omega
 by_cases hp:m=0
 .subst hp;refine⟨.nilSlice,H, ?_,zRf a, .inl ⟨rfl,rfl,rfl,rfl⟩,fun B f=>(zRl.1 f).elim⟩;simp(disch:=omega) only[f214,XR,JH,eZ,j,h,i,Int.sub_zero,yA,Int.sub_self]
 .obtain⟨o,q,p⟩:=zMN (k:=3) (e:=42) (bytes:=24) (m:=m) (z:=[.int .i64 (.ofNat 0), .int .i64 (.ofNat 0), .int .u64 (.ofNat 0)]) a (by decide) (by rw[zEk]) (by omega) hm (by decide);have s:((m:Nat):Int) - (((0:Nat):Int) - ((0:Nat):Int))=((m:Nat):Int):=by omega
  have t:((0:Nat):Int)< ((m:Nat):Int):=by omega
  refine⟨_,_, ?_,(zRf a).push _,p,fun B f=>by rw[zRd.1 f];exact zQ _⟩;simp only[Int.ofNat_eq_natCast]at o q;simp(disch:=omega) only[f214,XR,JH,eZ,j,h,i,u,s,t,o,q]
theorem catS1 (D:Dyn)(n:Nat){H:AH}{v:AV}{vs:List AV}{rs:List (Nat×List AV)}(q:Rw 1 H v vs.length vs)(h:Rws 1 H vs rs)(hb:gZ rs<=1000000000)(hl:vs.length<=1000000000)(a:Nat)(s:vs.length<a):
  jY a (cR D n) [v, .int .i64 ((0:Nat):Int),v, .int .i64 (vs.length:Nat), .int .i64 ((0:Nat):Int)] H=some (.exit 0 [v, .int .i64 (gZ rs:Nat)],H):=by
 have f:=h.len;refine vK (fun i=>[v, .int .i64 (gZ (rs.take i):Nat),v, .int .i64 (vs.length:Nat), .int .i64 (i:Nat)]) vs.length ?_ ?_ a s
 .intro i hi;obtain⟨p,x,t,u,y⟩:=q.ld1 hi;obtain⟨r,z,C,L⟩:=h.at y;have o:((i:Nat):Int)< ((vs.length:Nat):Int):=by omega
  have N:=QC z;have J:=YH rs i;have K:=YH rs (i+1);have j: ¬((gZ (rs.take i):Nat):Int)+((r.1:Nat):Int)< ((0:Nat):Int):=by omega
  have F:((gZ (rs.take (i+1)):Nat):Int)=((gZ (rs.take i):Nat):Int)+((r.1:Nat):Int):=by omega
  rw[F];simp(disch:=omega) only[cR,ZB,eZ,o,t,u,C.lnSl,j,yG]
 .intro m;refine jU ?_;have:rs.take vs.length=rs:=by rw[f];exact j8
  simp only[cR,eZ,yA,this]
theorem catS2 (D:Dyn)(n:Nat){H:AH}(N:H.ok){v:AV}{vs:List AV}{rs:List (Nat×List AV)}(O:Rw 1 H v vs.length vs)(h:Rws 1 H vs rs)(hl:vs.length<=1000000000)
  {w:AV} (S:Part 1 9 H w 0 [] (gZ rs)) (C: ∀B,Blk w B-> ¬Blk v B) (F: ∀B,Blk w B-> ∀x∈vs,¬Blk x B) (j:Nat) (T:vs.length<j):
  ∃a H',jY j (cQ D n) [w,v, .int .i64 (vs.length:Nat), .int .i64 ((0:Nat):Int)] H=some (.exit 2 [a],H')/\Stp (Blk w) H H'/\Part 1 9 H' a (gZ rs) (zGh rs) (gZ rs)/\ ∀B,Blk a B->Blk w B:=by
 have z:=h.len;obtain⟨m,o,H',U,a,rfl,V,s,W⟩:=vJ (b:=cQ D n) vs.length (fun i o H'=> ∃a,o=[a,v, .int .i64 (vs.length:Nat), .int .i64 (i:Nat)]/\Stp (Blk w) H H'/\Part 1 9 H' a (gZ (rs.take i)) (zGh (rs.take i)) (gZ rs)/\ ∀B,Blk a B->Blk w B) (fun i o H1 hi ⟨w1,hus,hs,hp,hB⟩=>by
  subst hus;obtain⟨p,x,Y,Z,t⟩:=(O.stp hs (fun A f q=>C A q f)).ld1 hi;obtain⟨r,u,y,r3⟩:=h.at t;have hx:x∈vs:=List.mem_of_getElem? t;have J:=y.stp hs (fun A f q=>F A q x hx f);have K:((i:Nat):Int)< ((vs.length:Nat):Int):=by omega
  have a0:=YH rs (i+1);have L:=QC u;obtain⟨w2,H2,e2,q2,s2,n2,b2⟩:=hp.app (bytes:=16) hs.ok (by decide) J.srcOf y.1 r3 (by omega);rw[<-L,<-zCC u]at q2;refine⟨_,H2, ?_,w2,rfl,hs.trans (s2.mono fun A _ f=>hB A f),q2,fun B hb=>hB B (b2 B hb)⟩;simp(disch:=omega) only[cQ,eZ,K,Y,Z,e2,yG]) j _ H ⟨w,rfl,zRf N,S,fun _ x=>x⟩ T
 rw[z,j8]at s;exact⟨a,H',U.trans (jU (by simp only[cQ,eZ,yA])),V,s,W⟩
theorem zJL (D:Dyn)(n:Nat){H:AH}(s:H.ok){v:AV}{vs:List AV}{rs:List (Nat×List AV)}(j:Rw 1 H v vs.length vs)(h:Rws 1 H vs rs)(hb:gZ rs<=1000000000)(hl:vs.length<=1000000000)(o:vs.length<n)
  (p: ∀B,Blk v B->B<H.next) (q: ∀x∈vs,∀B,Blk x B->B<H.next):
  ∃w H',f132 D n [v] H=some (w,H')/\Prs H H'/\Own 1 9 H' w (gZ rs) (zGh rs)/\ ∀B,Blk w B->H.next<=B:=by
 obtain⟨K,L,t,f,q1,i⟩:=zLq D n (gZ rs) hb s;obtain⟨u,y,z,C,q2,F⟩:=catS2 D n f.ok (j.prs f) (h.prs f) hl q1 (fun B a m=>by have:=i B a;have:=p B m;omega) (fun B a x J m=>by have:=i B a;have:=q x J B m;omega) n o;have l1:=catS1 D n j h hb hl n o;refine⟨u,y, ?_,f.fresh C i,q2.own,fun B a=>i B (F B a)⟩;simp only[f132,eZ,j.lnSl,l1,BC,t,z,XY]
theorem catP1 (D:Dyn)(n:Nat){H:AH}{v:AV}{vs:List AV}{rs:List (Nat×List AV)}(q:Rw 1 H v vs.length vs)(h:Rws 3 H vs rs)(hb:gZ rs<=1000000000)(hl:vs.length<=1000000000)(a:Nat)(s:vs.length<a):
  jY a (cP D n) [v, .int .i64 ((0:Nat):Int),v, .int .i64 (vs.length:Nat), .int .i64 ((0:Nat):Int)] H=some (.exit 0 [v, .int .i64 (gZ rs:Nat)],H):=by
 have f:=h.len;refine vK (fun i=>[v, .int .i64 (gZ (rs.take i):Nat),v, .int .i64 (vs.length:Nat), .int .i64 (i:Nat)]) vs.length ?_ ?_ a s
 .intro i hi;obtain⟨p,x,t,u,y⟩:=q.ld1 hi;obtain⟨r,z,C,L⟩:=h.at y;have o:((i:Nat):Int)< ((vs.length:Nat):Int):=by omega
  have N:=QC z;have J:=YH rs i;have K:=YH rs (i+1);have j: ¬((gZ (rs.take i):Nat):Int)+((r.1:Nat):Int)< ((0:Nat):Int):=by omega
  have F:((gZ (rs.take (i+1)):Nat):Int)=((gZ (rs.take i):Nat):Int)+((r.1:Nat):Int):=by omega
  rw[F];simp(disch:=omega) only[cP,ZA,eZ,o,t,u,C.lnSl,j,yG]
 .intro m;refine jU ?_;have:rs.take vs.length=rs:=by rw[f];exact j8
  simp only[cP,eZ,yA,this]
theorem catP2 (D:Dyn)(n:Nat){H:AH}(N:H.ok){v:AV}{vs:List AV}{rs:List (Nat×List AV)}(O:Rw 1 H v vs.length vs)(h:Rws 3 H vs rs)(hl:vs.length<=1000000000)
  {w:AV} (S:Part 3 42 H w 0 [] (gZ rs)) (C: ∀B,Blk w B-> ¬Blk v B) (F: ∀B,Blk w B-> ∀x∈vs,¬Blk x B) (j:Nat) (T:vs.length<j):
  ∃a H',jY j (cO D n) [w,v, .int .i64 (vs.length:Nat), .int .i64 ((0:Nat):Int)] H=some (.exit 2 [a],H')/\Stp (Blk w) H H'/\Part 3 42 H' a (gZ rs) (zGh rs) (gZ rs)/\ ∀B,Blk a B->Blk w B:=by
 have z:=h.len;obtain⟨m,o,H',U,a,rfl,V,s,W⟩:=vJ (b:=cO D n) vs.length (fun i o H'=> ∃a,o=[a,v, .int .i64 (vs.length:Nat), .int .i64 (i:Nat)]/\Stp (Blk w) H H'/\Part 3 42 H' a (gZ (rs.take i)) (zGh (rs.take i)) (gZ rs)/\ ∀B,Blk a B->Blk w B) (fun i o H1 hi ⟨w1,hus,hs,hp,hB⟩=>by
  subst hus;obtain⟨p,x,Y,Z,t⟩:=(O.stp hs (fun A f q=>C A q f)).ld1 hi;obtain⟨r,u,y,r3⟩:=h.at t;have hx:x∈vs:=List.mem_of_getElem? t;have J:=y.stp hs (fun A f q=>F A q x hx f);have K:((i:Nat):Int)< ((vs.length:Nat):Int):=by omega
  have a0:=YH rs (i+1);have L:=QC u;obtain⟨w2,H2,e2,q2,s2,n2,b2⟩:=hp.app (bytes:=24) hs.ok (by decide) J.srcOf y.1 r3 (by omega);rw[<-L,<-zCC u]at q2;refine⟨_,H2, ?_,w2,rfl,hs.trans (s2.mono fun A _ f=>hB A f),q2,fun B hb=>hB B (b2 B hb)⟩;simp(disch:=omega) only[cO,eZ,K,Y,Z,e2,yG]) j _ H ⟨w,rfl,zRf N,S,fun _ x=>x⟩ T
 rw[z,j8]at s;exact⟨a,H',U.trans (jU (by simp only[cO,eZ,yA])),V,s,W⟩
theorem zJM (D:Dyn)(n:Nat){H:AH}(s:H.ok){v:AV}{vs:List AV}{rs:List (Nat×List AV)}(j:Rw 1 H v vs.length vs)(h:Rws 3 H vs rs)(hb:gZ rs<=1000000000)(hl:vs.length<=1000000000)(o:vs.length<n)
  (p: ∀B,Blk v B->B<H.next) (q: ∀x∈vs,∀B,Blk x B->B<H.next):
  ∃w H',f178 D n [v] H=some (w,H')/\Prs H H'/\Own 3 42 H' w (gZ rs) (zGh rs)/\ ∀B,Blk w B->H.next<=B:=by
 obtain⟨K,L,t,f,q1,i⟩:=zLr D n (gZ rs) hb s;obtain⟨u,y,z,C,q2,F⟩:=catP2 D n f.ok (j.prs f) (h.prs f) hl q1 (fun B a m=>by have:=i B a;have:=p B m;omega) (fun B a x J m=>by have:=i B a;have:=q x J B m;omega) n o;have l1:=catP1 D n j h hb hl n o;refine⟨u,y, ?_,f.fresh C i,q2.own,fun B a=>i B (F B a)⟩;simp only[f178,eZ,j.lnSl,l1,B0,t,z,XU]
end Go.Eng.Sh
end
section
namespace Go.Eng
theorem hp:(∀(o:AObj) (f:Nat->AV) (H:AH) (K:AV->AH->Rs),H.ok->bA (some (o,f)) H K=K (f H.next) (H.push o))/\
  (∀(H:AH) (A o:Nat) (x:AObj),A<H.next->ld1 (.ptr A o) (H.push x)=ld1 (.ptr A o) H)/\
  (∀(H:AH) (A o n:Nat) (x:AObj),A<H.next->ldN n (.ptr A o) (H.push x)=ldN n (.ptr A o) H)/\
  (∀(l:List AV) (o n:Nat) (a:AV),o=0->n=l.length->(uU l o n).map AV.agg=some (.agg l))/\
  (∀(a b c d:AV),uU [a,b,c,d] 0 4=some [a,b,c,d])/\
  (∀(l:List AV),(some l).map AV.agg=some (.agg l))/\
  (∀(vs:List AV) (i:Nat),jM (.tuple vs) i=vs[i]?):=
 ⟨fun o f H K h=>kT h o f K,fun H A o x h=>zDk o x h,fun H A o n x h=>zOf o n x h,fun l o n _ j m=>by subst j;subst m;rw[kW _ _ _ (.inr (by omega)),yB,j8];rfl,fun _ _ _ _=>rfl,fun _=>rfl,fun vs i=>by simp only[jM,QI]⟩
end Go.Eng
end
section
namespace Go.Nd
def partedN (lt:Str->Str->Bool)(a:Node)(sep:Str)(b:Node):Bool:=
 mayK sep&&(a.leaf==b.leaf)&&(decide (a.keys.length=0)||lt (a.keys.getD (a.keys.length - 1) []) sep)&&(decide (b.keys.length=0)||lt sep (b.keys.getD 0 [])||(a.leaf&&decide (sep=b.keys.getD 0 [])))
end Go.Nd
namespace Go.Eng.Sh
open Go.Nd (Ptr sumL cutOk cutA Q4 partedN)
theorem zHT (D:Dyn)(n:Nat){H:AH}(hk:H.ok){v w:AV}{a b:Nd.Node}{sep:Str}(h:hU H v a)(h':hU H w b)(hs:small a)(a1:small b):
  ∃H',f212 D n [v,S sep,w] H=some (.bool (partedN ltS a sep b),H')/\Prs H H':=by
 obtain⟨ks,vs,K,rfl,Z,h2,h3⟩:=h;obtain⟨J,vs',O,rfl,k1,k2,k3⟩:=h';have a4:=Nd.sumL_ge a.keys;have a3:=Nd.sumL_ge b.keys;obtain⟨s1,s2,s3⟩:=hs;obtain⟨a5,a6,a7⟩:=a1;have P:Prs H ((H.push (.cells [.bool a.leaf,ks,vs,K] 119 1 false)).push (.cells [.bool b.leaf,J,vs',O] 119 1 false)):=((zRf hk).push _).push _;have l1:=Z.lnSl;have u:=k1.lnSl;have q1:=Z.prs P;have q2:=k1.prs P;generalize f:(H.push (.cells [.bool a.leaf,ks,vs,K] 119 1 false)).push (.cells [.bool b.leaf,J,vs',O] 119 1 false)=H2 at P q1 q2;have p: ∀o,ld1 (.ptr H.next o) H2=[.bool a.leaf,ks,vs,K][o]? :=fun o=>by rw[<-f,zDk _ _ (by rw[zR9];omega),K8]
 have j: ∀o,ld1 (.ptr (H.push (.cells [.bool a.leaf,ks,vs,K] 119 1 false)).next o) H2=[.bool b.leaf,J,vs',O][o]? :=fun o=>by rw[<-f,K8]
 refine⟨H2, ?_,P⟩;have a2: ∀x y:Bool,(!(x==y))=false->x=y:=fun x y=>by cases x<;>cases y<;>simp
 cases hm:Nd.mayK sep with
 | false=>simp(disch:=first | assumption | omega | (simp only[zR9,zRa];omega) | (repeat(first | assumption | apply AH.ok.push))) only[f212,eZ,hp,f,wE,hm,partedN]
 | true=>
  cases hl:(a.leaf==b.leaf)with
  | false=>simp(disch:=first | assumption | omega | (simp only[zR9,zRa];omega) | (repeat(first | assumption | apply AH.ok.push))) only[f212,eZ,hp,f,wE,hm,partedN,p,j,hl]
  | true=>
   have e:b.leaf=a.leaf:=by revert hl;cases a.leaf<;>cases b.leaf<;>simp
   rw[e]at j f;simp only[partedN,hm,hl,Bool.true_and];rw[e];clear hl e a2;generalize a.leaf=la at*
   have t:(la==la)=true:=by simp
   have a0:
     (∃V,b.keys.length≠0->(∀κ (z:Int),z=((0:Nat):Int)->uX 1 J (.int κ z)=some V)/\Eng.ld1 V H2=some (S (b.keys.getD 0 []))):=by
    by_cases h0:b.keys.length=0
    .exact⟨.nilPtr,fun h=>absurd h0 h⟩
    .obtain⟨q,C,F⟩:=q2.at (i:=0) (by omega);refine⟨q,fun _=>⟨C, ?_⟩⟩;rw[vN (by omega)];exact F
   obtain⟨V,Y⟩:=a0;by_cases ha:a.keys.length=0
   .have s: ¬((0:Nat):Int)< ((a.keys.length:Nat):Int):=by omega
    simp only[ha,decide_true,Bool.true_or,Bool.true_and];by_cases hb:b.keys.length=0
    .have m:((b.keys.length:Nat):Int)=((0:Nat):Int):=by omega
     simp only[hb,decide_true,Bool.true_or];simp(disch:=first | assumption | omega | (simp only[zR9,zRa];omega) | (repeat(first | assumption | apply AH.ok.push))) only[f212,eZ,hp,f,wE,hm,p,j,t,l1,u,s,m]
    .have m: ¬((b.keys.length:Nat):Int)=((0:Nat):Int):=by omega
     obtain⟨C,F⟩:=Y hb;simp only[hb,decide_false,Bool.false_or]
     cases T:ltS sep (b.keys.getD 0 [])<;>cases la<;>simp(disch:=first | assumption | omega | (simp only[zR9,zRa];omega) | (repeat(first | assumption | apply AH.ok.push))) only[f212,eZ,hp,f,wE,hm,p,j,t,l1,u,s,m,C,F,T]
   .have s:((0:Nat):Int)< ((a.keys.length:Nat):Int):=by omega
    obtain⟨q,W,L⟩:=q1.at (i:=a.keys.length - 1) (by omega);rw[<-vN (d:=[])]at L;have N:((a.keys.length:Nat):Int) - ((1:Nat):Int)=((a.keys.length - 1:Nat):Int):=by omega
    simp only[ha,decide_false,Bool.false_or]
    cases U:ltS (a.keys.getD (a.keys.length - 1) []) sep with
    | false=>simp(disch:=first | assumption | omega | (simp only[zR9,zRa];omega) | (repeat(first | assumption | apply AH.ok.push))) only[f212,eZ,hp,f,wE,hm,p,j,t,l1,u,s,N,W,L,U]
    | true=>
     by_cases hb:b.keys.length=0
     .have m:((b.keys.length:Nat):Int)=((0:Nat):Int):=by omega
      simp only[hb,decide_true,Bool.true_or];simp(disch:=first | assumption | omega | (simp only[zR9,zRa];omega) | (repeat(first | assumption | apply AH.ok.push))) only[f212,eZ,hp,f,wE,hm,p,j,t,l1,u,s,m,N,W,L,U]
     .have m: ¬((b.keys.length:Nat):Int)=((0:Nat):Int):=by omega
      obtain⟨C,F⟩:=Y hb;simp only[hb,decide_false,Bool.false_or]
      cases T:ltS sep (b.keys.getD 0 [])<;>cases la<;>simp(disch:=first | assumption | omega | (simp only[zR9,zRa];omega) | (repeat(first | assumption | apply AH.ok.push))) only[f212,eZ,hp,f,wE,hm,p,j,t,l1,u,s,m,N,W,L,U,C,F,T]
end Go.Eng.Sh
end
section
namespace Go.Eng
theorem box {H:AH}(f:H.ok)(o:AObj): ∃H' A,(∀(a:Nat->AV) (K:AV->AH->Rs),bA (some (o,a)) H K=K (a A) H')/\Prs H H'/\H'.h.get A=some o/\H.next<=A/\A<H'.next:=
 ⟨H.push o,H.next,fun a K=>kT f o a K,(zRf f).push o,zR8 _ _,zQ _,by rw[zR9];omega⟩
theorem zQ3 {x y:AV}(e:TypeId)(z:AV)(a:isCell x=true)(f:isCell y=true)(h:isCell z=true):dL e 1 2 [z] [(0,x),(1,y)]=some (.cells [x,y] e 1 false,fun A=> .slice A 0 2 4):=by
 simp only[dL,fK,rep,kP a,kP f];rfl
theorem row3 {x y w:AV}(e:TypeId)(z:AV)(a:isCell x=true)(f:isCell y=true)(h:isCell w=true):dL e 1 3 [z] [(0,x),(1,y),(2,w)]=some (.cells [x,y,w] e 1 false,fun A=> .slice A 0 3 6):=by
 simp only[dL,fK,rep,kP a,kP f,kP h];rfl
theorem zNP {x:AV}(e:TypeId)(z:AV)(a:isCell x=true):dL e 1 1 [z] [(0,x)]=some (.cells [x] e 1 false,fun A=> .slice A 0 1 2):=by
 simp only[dL,fK,rep,kP a];rfl
theorem Rw.lit {H:AH}{A e:Nat}{l:List AV}{cc:Nat}(a:H.ok)(h:H.h.get A=some (.cells l e 1 false)):Rw 1 H (.slice A 0 l.length cc) l.length l:=
 ⟨by simp, .inr (.inr ⟨A,0,cc,l,e,1,false,rfl,h,a.lt h,by simp,by simp⟩)⟩
end Go.Eng
namespace Go.Eng.Sh
open Go.Nd (Ptr sumL cutOk cutA Q4 partedN cJ)
theorem bY {A:Nat}{H:AH}{l:List AV}{e:TypeId}(h:H.h.get A=some (.cells l e 1 false))(hl:l.length=4):ldN 4 (.ptr A 0) H=some (.agg l):=by
 rw[jQ h,kW _ _ _ (.inr (by omega)),yB,zX (by omega)];rfl
def nd0:Nd.Node:=⟨false,[],[],[]⟩
theorem YC.zero (H0 H:AH):YC H0 H (.agg [.bool false, .nilSlice, .nilSlice, .nilSlice]) nd0:=
 ⟨_,_,_,rfl,zRo ..,zRo ..,zRo ..,fun B a=>by rcases a with h | h | h<;>exact(zRl.1 h).elim,fun B a=>(zRl.1 a).elim,fun B a=>(zRl.1 a).elim⟩
def joinOk (a:Nd.Node)(sep:Str)(b:Nd.Node):Bool:=Nd.shaped ltS a&&Nd.shaped ltS b&&partedN ltS a sep b
theorem zLO (D:Dyn)(n:Nat){H:AH}{A cc:Nat}{x y:AV}{l m:List Str}(i:H.ok)(j:H.h.get A=some (.cells [x,y] 117 1 false))(q:Strs H x l)(s:Strs H y m)(hb:l.length+m.length<=1000000000)(u:100<=n):
  ∃w H',f132 D n [.slice A 0 2 cc] H=some (w,H')/\Prs H H'/\Own 1 9 H' w (l++m).length ((l++m).map S)/\ ∀B,Blk w B->H.next<=B:=by
 obtain⟨w,H',e,p,o,f⟩:=zJL D n i (v:= .slice A 0 2 cc) (vs:=[x,y]) (rs:=[(l.length,l.map S),(m.length,m.map S)]) (Rw.lit i j) ⟨⟨q,vI _⟩,⟨s,vI _⟩,trivial⟩ (by simpa[gZ]using hb) (by simp) (by simp;omega)
  (fun B a=>by rw[zRd.1 a];exact i.lt j) (fun z t B a=>by
   simp only[zP,List.not_mem_nil,or_false]at t;rcases t with rfl | rfl
   .exact zRp q a
   .exact zRp s a)
 exact⟨w,H',e,p,by simpa[gZ,zGh]using o,f⟩
theorem zQO (D:Dyn)(n:Nat){H:AH}{A cc:Nat}{x y z:AV}{l m k:List Str}(i:H.ok)(j:H.h.get A=some (.cells [x,y,z] 117 1 false))(q:Strs H x l)(s:Strs H y m)(t:Strs H z k)(hb:l.length+m.length+k.length<=1000000000)(C:100<=n):
  ∃w H',f132 D n [.slice A 0 3 cc] H=some (w,H')/\Prs H H'/\Own 1 9 H' w (l++(m++k)).length ((l++(m++k)).map S)/\ ∀B,Blk w B->H.next<=B:=by
 obtain⟨w,H',e,p,o,f⟩:=zJL D n i (v:= .slice A 0 3 cc) (vs:=[x,y,z]) (rs:=[(l.length,l.map S),(m.length,m.map S),(k.length,k.map S)]) (Rw.lit i j) ⟨⟨q,vI _⟩,⟨s,vI _⟩,⟨t,vI _⟩,trivial⟩ (by simp[gZ];omega) (by simp) (by simp;omega)
  (fun B a=>by rw[zRd.1 a];exact i.lt j) (fun z u B a=>by
   simp only[zP,List.not_mem_nil,or_false]at u;rcases u with rfl | rfl | rfl
   .exact zRp q a
   .exact zRp s a
   .exact zRp t a)
 exact⟨w,H',e,p,by simpa[gZ,zGh]using o,f⟩
theorem conP2 (D:Dyn)(n:Nat){H:AH}{A cc:Nat}{x y:AV}{l m:List Ptr}(i:H.ok)(j:H.h.get A=some (.cells [x,y] 50 1 false))(q:vS H x l)(s:vS H y m)(hb:l.length+m.length<=1000000000)(u:100<=n):
  ∃w H',f178 D n [.slice A 0 2 cc] H=some (w,H')/\Prs H H'/\Own 3 42 H' w (l++m).length ((l++m).flatMap jR)/\ ∀B,Blk w B->H.next<=B:=by
 obtain⟨w,H',e,p,o,f⟩:=zJM D n i (v:= .slice A 0 2 cc) (vs:=[x,y]) (rs:=[(l.length,l.flatMap jR),(m.length,m.flatMap jR)]) (Rw.lit i j) ⟨⟨q,uY _⟩,⟨s,uY _⟩,trivial⟩ (by simpa[gZ]using hb) (by simp) (by simp;omega)
  (fun B a=>by rw[zRd.1 a];exact i.lt j) (fun z t B a=>by
   simp only[zP,List.not_mem_nil,or_false]at t;rcases t with rfl | rfl
   .exact zRp q a
   .exact zRp s a)
 exact⟨w,H',e,p,by simpa[gZ,zGh]using o,f⟩
theorem ZY:vR [(0,1),(1,1),(2,1),(3,1)] [.bool false, .nilSlice, .nilSlice, .nilSlice] []=some (.agg [.bool false, .nilSlice, .nilSlice, .nilSlice]):=rfl
theorem zJS {a b:AV}(x:Bool)(f:isCell a=true)(hb:isCell b=true):vR [(0,1),(1,1),(2,1),(3,1)] [.bool false, .nilSlice, .nilSlice, .nilSlice] [(0, .bool x),(1,a),(2,b)]=some (.agg [.bool x,a,b, .nilSlice]):=by
 simp only[vR,fK,zLb,kP f,kP hb];rfl
theorem zP6 {a b:AV}(f:isCell a=true)(hb:isCell b=true):vR [(0,1),(1,1),(2,1),(3,1)] [.bool false, .nilSlice, .nilSlice, .nilSlice] [(1,a),(3,b)]=some (.agg [.bool false,a, .nilSlice,b]):=by
 simp only[vR,fK,zLb,kP f,kP hb];rfl
theorem zIl (D:Dyn)(n:Nat)(hn:200000000<=n){H:AH}(hk:H.ok){v w:AV}{a b:Nd.Node}{sep:Str}(h:hU H v a)(h':hU H w b)(hs:small a)(c5:small b):
  ∃u H',f176 D n [v,S sep,w] H=some (.tuple [u, .int .i64 ((if joinOk a sep b then 0 else 1:Nat):Int)],H')/\Prs H H'/\YC H H' u (if joinOk a sep b then cJ a sep b else nd0):=by
 have i0:=h;have c6:=h';obtain⟨ks,vs,ps,rfl,h1,h2,h3⟩:=h;obtain⟨la,a7⟩: ∃la,la=a.leaf:=⟨_,rfl⟩;rw[<-a7]at i0⊢;obtain⟨a8,vs',c7,rfl,k1,k2,k3⟩:=h';have e0:=Nd.sumL_ge a.keys;have d8:=Nd.sumL_ge b.keys;have e1:=Nd.sumL_ge a.vals;have d9:=Nd.sumL_ge b.vals;have s0:=hs;have c8:=c5;obtain⟨s1,s2,s3⟩:=hs;obtain⟨e2,e3,e7⟩:=c5;obtain⟨H1,A1,b1,p1,g1,m1,n1⟩:=box hk (.cells [.bool la,ks,vs,ps] 119 1 false);obtain⟨H2,A2,b2,p2,g2,m2,n2⟩:=box p1.ok (.cells [.bool b.leaf,a8,vs',c7] 119 1 false);obtain⟨H3,U,b3,p3,g3,m3,n3⟩:=box p2.ok (.cells [.bool false, .nilSlice, .nilSlice, .nilSlice] 119 1 false);have P3:Prs H H3:=(p1.trans p2).trans p3;have Z:=p3.get p2.ok (p2.get p1.ok g1);have d3:=p3.get p2.ok g2;obtain⟨H4,e4,p4⟩:=bE D n P3.ok (i0.prs P3) s0 hn;have V:=P3.trans p4;have d4:=p4.get P3.ok Z;have a2:=p4.get P3.ok d3;have c9:=p4.get P3.ok g3;have a3: ∀ {t:AH} {l:List AV},Prs H t->t.h.get U=some (.cells [.bool false, .nilSlice, .nilSlice, .nilSlice] 119 1 false)->l.length=4->jP l=true-> ∃i,stN 4 (.ptr U 0) (.agg l) t=some (jO,i)/\Prs H i/\Stp (fun B=>B=U) t i/\ldN 4 (.ptr U 0) i=some (.agg l):=fun {t l} px hg hl hc=>by
  obtain⟨i,e,g,s,_⟩:=jW px.ok hg hl hc;have e':stN 4 (.ptr U 0) (.agg l) t=some (jO,i):=e;exact⟨i,e',px.fresh s (fun B f=>by omega),s,by rw[jQ g,kW _ _ _ (.inr (by omega)),yB,zX (by omega)];rfl⟩
 cases c1:Nd.shaped ltS a with
 | false=>
  obtain⟨i,C,F,_,J⟩:=a3 (l:=[.bool false, .nilSlice, .nilSlice, .nilSlice]) V c9 rfl rfl;refine⟨.agg [.bool false, .nilSlice, .nilSlice, .nilSlice],i, ?_,F, ?_⟩
  rotate_left
  .simp only[joinOk,c1,Bool.false_and,zL,qC];exact YC.zero _ _
  .simp only[joinOk,c1,Bool.false_and,zL,qC];simp(disch:=omega) only[f176,eZ,b1,b2,b3,jQ Z,ZJ,zZ,e4,c1,ZY,C,J]
 | true=>
 obtain⟨H5,e5,p5⟩:=bE D n V.ok (c6.prs V) c8 hn;have N:=V.trans p5;have a4:=p5.get V.ok d4;have a5:=p5.get V.ok a2;have d0:=p5.get V.ok c9
 cases c2:Nd.shaped ltS b with
 | false=>
  obtain⟨i,C,F,_,J⟩:=a3 (l:=[.bool false, .nilSlice, .nilSlice, .nilSlice]) N d0 rfl rfl;refine⟨.agg [.bool false, .nilSlice, .nilSlice, .nilSlice],i, ?_,F, ?_⟩
  rotate_left
  .simp only[joinOk,c2,Bool.false_and,Bool.and_false,zL,qC];exact YC.zero _ _
  .simp only[joinOk,c2,Bool.false_and,Bool.and_false,zL,qC];simp(disch:=omega) only[f176,eZ,b1,b2,b3,jQ Z,jQ a2,ZJ,zZ,e4,e5,c1,c2,ZY,C,J]
 | true=>
 obtain⟨H6,e6,p6⟩:=zHT D n N.ok (sep:=sep) (i0.prs N) (c6.prs N) s0 c8;have W:=N.trans p6;have a0:=p6.get N.ok a4;have O:=p6.get N.ok a5;have a9:=p6.get N.ok d0
 cases c3:partedN ltS a sep b with
 | false=>
  obtain⟨i,C,F,_,J⟩:=a3 (l:=[.bool false, .nilSlice, .nilSlice, .nilSlice]) W a9 rfl rfl;refine⟨.agg [.bool false, .nilSlice, .nilSlice, .nilSlice],i, ?_,F, ?_⟩
  rotate_left
  .simp only[joinOk,c3,Bool.false_and,Bool.and_false,zL,qC];exact YC.zero _ _
  .simp only[joinOk,c3,Bool.false_and,Bool.and_false,zL,qC];simp(disch:=omega) only[f176,eZ,b1,b2,b3,jQ Z,jQ a2,jQ a4,jQ a5,ZJ,zZ,e4,e5,e6,c1,c2,c3,ZY,C,J]
 | true=>
 have hj:joinOk a sep b=true:=by simp only[joinOk,c1,c2,c3,qN]
 simp only[hj,if_true]
 cases la with
 | true=>
  obtain⟨H7,A7,b7,j,g7,m7,n7⟩:=box W.ok (.cells [ks,a8] 117 1 false);have Y:=W.trans j;obtain⟨H8,A8,b8,q,g8,m8,n8⟩:=box Y.ok (.cells [vs,vs'] 117 1 false);have y:=Y.trans q;obtain⟨w9,H9,e9,z,o9,f9⟩:=zLO D n (cc:=4) y.ok (q.get Y.ok g7) (h1.prs y) (k1.prs y) (by omega) (by omega);have m:=y.trans z;obtain⟨T,d1,b0,K,L,f10⟩:=zLO D n (cc:=4) m.ok (z.get y.ok g8) (h2.prs m) (k2.prs m) (by omega) (by omega);have a1:=m.trans K;have up {t:AH} {o:AObj} {A:Nat} (g:H6.h.get A=some o) (p:Prs H6 t):=p.get W.ok g;have b4:Prs H6 H9:=(j.trans q).trans z;obtain⟨i,C,F,sy,J⟩:=a3 (l:=[.bool true,w9,T, .nilSlice]) a1 (up a9 (b4.trans K)) rfl (by simp only[jP,o9.row.isCell,L.row.isCell];rfl);have d5:U<H8.next:=by have:=p4.next;have:=p5.next;have:=p6.next;have:=j.next;have:=q.next;omega
  have n9:=z.next
  refine⟨.agg [.bool true,w9,T, .nilSlice],i, ?_,F, ?_⟩
  rotate_left
  .have:cJ a sep b=⟨true,a.keys++b.keys,a.vals++b.vals,[]⟩:=by simp only[cJ,<-a7,if_true]
   rw[this];refine⟨w9,T, .nilSlice,rfl,(o9.mono K (fun _ _ x=>x)).mono sy (fun B f e=>by have:=f9 B f;omega),L.mono sy (fun B f e=>by have:=f10 B f;omega),zRo ..,fun B f=> ?_,fun B f=>⟨fun h=> ?_,fun h=>(zRl.1 h).elim⟩,fun B f h=>(zRl.1 h).elim⟩
   .have:=y.next
    rcases f with h | h | h
    .have:=f9 B h;omega
    .have:=f10 B h;omega
    .exact(zRl.1 h).elim
   .have:=f10 B h;have:=zRp o9.row f;omega
  .simp(disch:=omega) only[f176,eZ,b1,b2,b3,jQ Z,jQ a2,jQ a4,jQ a5,ZJ,zZ,e4,e5,e6,c1,c2,c3,jL a0,jL O,jL (up a0 j),jL (up O j),zQ3 117 .nilSlice h1.isCell k1.isCell rfl,zQ3 117 .nilSlice h2.isCell k2.isCell rfl,b7,b8,e9,
    wC (jL (up a0 b4) 2) (kH h2),wC (jL (up O b4) 2) (kH k2),b0,zJS _ o9.row.isCell L.row.isCell,C,J]
 | false=>
  obtain⟨H7,A7,b7,j,g7,m7,n7⟩:=box W.ok (.cells [S sep] 9 1 false);have Y:=W.trans j;obtain⟨H8,A8,b8,q,g8,m8,n8⟩:=box Y.ok (.cells [ks, .slice A7 0 1 2,a8] 117 1 false);have y:=Y.trans q;obtain⟨H9,A9,b9,z,g9,m9,n9⟩:=box y.ok (.cells [ps,c7] 50 1 false);have m:=y.trans z;have d2:Strs H9 (.slice A7 0 1 2) [sep]:=Rw.lit (cc:=2) m.ok (zRn (q.trans z) Y.ok g7);obtain⟨T,d1,b0,K,L,f10⟩:=zQO D n (cc:=6) m.ok (z.get y.ok g8) (h1.prs m) d2 (k1.prs m) (by simp only[zW,yJ];omega) (by omega);have a1:=m.trans K;obtain⟨b5,e8,d6,b6,c0,c4⟩:=conP2 D n (cc:=4) a1.ok (K.get m.ok g9) (h3.prs a1) (k3.prs a1) (by omega) (by omega);have d7:=a1.trans b6;have up {t:AH} {o:AObj} {A:Nat} (g:H6.h.get A=some o) (p:Prs H6 t):=p.get W.ok g;have a6:Prs H6 d1:=((j.trans q).trans z).trans K;obtain⟨i,C,F,sy,J⟩:=a3 (l:=[.bool false,T, .nilSlice,b5]) d7 (up a9 (a6.trans b6)) rfl (by simp only[jP,L.row.isCell,c0.row.isCell];rfl);have d5:U<H9.next:=by have:=p4.next;have:=p5.next;have:=p6.next;have:=j.next;have:=q.next;have:=z.next;omega
  have f1:=K.next
  refine⟨.agg [.bool false,T, .nilSlice,b5],i, ?_,F, ?_⟩
  rotate_left
  .have:cJ a sep b=⟨false,a.keys++([sep]++b.keys),[],a.kids++b.kids⟩:=by simp only[cJ,<-a7,zL,qC]
   rw[this];refine⟨T, .nilSlice,b5,rfl,(L.mono b6 (fun _ _ x=>x)).mono sy (fun B f e=>by have:=f10 B f;omega),zRo ..,c0.mono sy (fun B f e=>by have:=c4 B f;omega),fun B f=> ?_,fun B f=>⟨fun h=>(zRl.1 h).elim,fun h=> ?_⟩,fun B f=>(zRl.1 f).elim⟩
   .have:=m.next
    rcases f with h | h | h
    .have:=f10 B h;omega
    .exact(zRl.1 h).elim
    .have:=c4 B h;omega
   .have:=c4 B h;have:=zRp L.row f;omega
  .simp(disch:=omega) only[f176,eZ,b1,b2,b3,jQ Z,jQ a2,jQ a4,jQ a5,ZJ,zZ,e4,e5,e6,c1,c2,c3,jL a0,jL O,jL (up O j),jL (up a0 (j.trans q)),jL (up O (j.trans q)),zNP 9 (.str 0 0) (JV sep),b7,
    row3 117 .nilSlice h1.isCell (show isCell (.slice A7 0 1 2)=true from rfl) k1.isCell,zQ3 50 .nilSlice h3.isCell k3.isCell rfl,b8,b9,b0,
    wC (jL (up a0 a6) 3) (kH h3),wC (jL (up O a6) 3) (kH k3),d6,zP6 L.row.isCell c0.row.isCell,C,J]
end Go.Eng.Sh
end
section
namespace Go.Nd
end Go.Nd
namespace Go.Eng.Sh
open Go.Nd (Ptr sumL cutOk cutA Q4)
theorem kC.cells {H:AH}{v:AV}{nd:Nd.Node}(h:kC H v nd): ∃l,v= .agg l/\l.length=4/\jP l=true:=by
 obtain⟨ks,vs,j,rfl,a,f,i⟩:=h;exact⟨_,rfl,rfl,YB _ _ _ _ a.row.isCell f.row.isCell i.row.isCell⟩
theorem kC.zero (H:AH):kC H (.agg [.bool false, .nilSlice, .nilSlice, .nilSlice]) nd0:=
 ⟨_,_,_,rfl, .inl (zRo ..), .inl (zRo ..), .inl (zRo ..)⟩
theorem vT.zero (N:Nat)(H:AH):vT N H (.agg [.bool false, .nilSlice, .nilSlice, .nilSlice]) nd0:=
 ⟨kC.zero H,fun B a=>by rcases wO.1 a with h | h | h<;>exact(zRl.1 h).elim⟩
theorem cutNo (D:Dyn)(n:Nat)(K:200000000<=n){H:AH}(L:H.ok){v:AV}{nd:Nd.Node}(h:hU H v nd)(N:small nd)(i: ¬(Nd.shaped ltS nd=true/\gK nd)):
  ∃H',f213 D n [v] H=some (.tuple [.agg [.bool false, .nilSlice, .nilSlice, .nilSlice],S [], .agg [.bool false, .nilSlice, .nilSlice, .nilSlice], .int .i64 ((1:Nat):Int)],H')/\Prs H H':=by
 have z:=h;obtain⟨ks,vs,ps,rfl,O,h2,h3⟩:=h;obtain⟨j,m⟩: ∃j,j=nd.leaf:=⟨_,rfl⟩;rw[<-m]at z⊢;obtain⟨H1,H2,H3,T,A1,A2,A4,b1,b2,s,t,u,a⟩:=zDL D n K L m.symm z N;have o1:=a.o1;have o2:=a.o2;have o4:=a.o4;have l4:=a.lt;obtain⟨C,U,V,s5⟩:=a.all2 (l':=[.bool false, .nilSlice, .nilSlice, .nilSlice]) rfl rfl;obtain⟨F,W,f,s6⟩:=V.all4 (l':=[.bool false, .nilSlice, .nilSlice, .nilSlice]) rfl rfl;have o:stN 4 (.ptr A2 0) (.agg [.bool false, .nilSlice, .nilSlice, .nilSlice]) T=some (jO,C):=U;have p:stN 4 (.ptr A4 0) (.agg [.bool false, .nilSlice, .nilSlice, .nilSlice]) C=some (jO,F):=W;have y:=O.lnSl;refine⟨F, ?_,f.prs⟩;have x:(AV.str 0 0)=S []:=rfl
 cases c1:Nd.shaped ltS nd with
 | false=>
  simp(maxSteps:=999999)(disch:=omega) only[f213,eZ,b1,b2,s,jQ u.a1,jQ a.a1,ZJ,zZ,t,c1,ZY,o,p,jQ f.a2,jQ f.a4,x]
 | true=>
  have i: ¬gK nd:=fun Y=>i ⟨c1,Y⟩
  by_cases t2:nd.keys.length<2
  .have q:((nd.keys.length:Nat):Int)< ((2:Nat):Int):=by omega
   simp(maxSteps:=999999)(disch:=omega) only[f213,eZ,b1,b2,s,jQ u.a1,jQ a.a1,ZJ,zZ,t,c1,jL a.a1,y,q,ZY,o,p,jQ f.a2,jQ f.a4,x]
  .have q: ¬((nd.keys.length:Nat):Int)< ((2:Nat):Int):=by omega
   have Z:j=false:=by
    cases j with
    | false=>rfl
    | true=>exact absurd ⟨by omega, .inl m.symm⟩ i
   have t3:nd.keys.length<3:=by
    rcases Nat.lt_or_ge nd.keys.length 3 with h | h
    .exact h
    .exact absurd ⟨by omega, .inr h⟩ i
   have J:((nd.keys.length:Nat):Int)< ((3:Nat):Int):=by omega
   subst Z;simp(maxSteps:=999999)(disch:=omega) only[f213,eZ,b1,b2,s,jQ u.a1,jQ a.a1,ZJ,zZ,t,c1,jL a.a1,y,q,J,ZY,o,p,jQ f.a2,jQ f.a4,x]
theorem zQL (D:Dyn)(n:Nat)(j:200000000<=n){H:AH}(m:H.ok){v:AV}{nd:Nd.Node}(h:kC H v nd)(o:small nd):
  ∃f sep i e H',f213 D n [v] H=some (.tuple [f,S sep,i, .int .i64 ((e:Nat):Int)],H')/\Prs H H'/\
   ((e=0/\ ∃k,Nd.shaped ltS nd=true/\cutOk nd k/\hbnd nd k/\sep=nd.keys.getD k []/\vT H.next H' f (cutA nd k)/\vT H.next H' i (Q4 nd k))\/
    (e=1/\sep=[]/\ ¬(Nd.shaped ltS nd=true/\gK nd)/\f= .agg [.bool false, .nilSlice, .nilSlice, .nilSlice]/\i= .agg [.bool false, .nilSlice, .nilSlice, .nilSlice])):=by
 by_cases a:Nd.shaped ltS nd=true/\gK nd
 .cases hl:nd.leaf with
  | true=>
   obtain⟨k,f,i,H',e,p,q,s,ok,t⟩:=zP0 D n j m h o a.1 a.2 hl;exact⟨f,_,i,0,H',e,p, .inl ⟨rfl,k,a.1,ok,t,rfl,q,s⟩⟩
  | false=>
   obtain⟨k,f,i,H',e,p,q,s,ok,t⟩:=zLM D n j m h o a.1 a.2 hl;exact⟨f,_,i,0,H',e,p, .inl ⟨rfl,k,a.1,ok,t,rfl,q,s⟩⟩
 .obtain⟨H',e,p⟩:=cutNo D n j m h.node o a;exact⟨_,[],_,1,H',e,p, .inr ⟨rfl,rfl,a,rfl,rfl⟩⟩
end Go.Eng.Sh
end
section
namespace Go.Nd
open Go.Eng (ltS kV kR fX bH d7)
abbrev Kvs:=List (Str×Str)
def lookP (k:Str):Kvs->Option Str
 | []=>none
 | (a,b)::l=>if a=k then some b else lookP k l
def putP (k v:Str):Kvs->Kvs
 | []=>[(k,v)]
 | (a,b)::l=>if a=k then(k,v)::l else if ltS a k then(a,b)::putP k v l else(k,v)::(a,b)::l
def delP (k:Str):Kvs->Kvs
 | []=>[]
 | (a,b)::l=>if a=k then l else(a,b)::delP k l
def Srt:Kvs->Prop
 | []=>True
 | (a,_)::l=>(∀p∈l,ltS a p.1=true)/\Srt l
theorem rising_cons {a:Str}{l:List Str} :rising ltS (a::l)=true↔(∀x∈l,ltS a x=true)/\rising ltS l=true:=by
 induction l generalizing a with
 | nil=>simp[rising]
 | cons b l ih=>
  rw[rising,zE];constructor
  .rintro⟨h1,h2⟩
   refine⟨fun x f=> ?_,h2⟩;rcases zP.1 f with rfl | f
   .exact h1
   .exact kR h1 ((ih.1 h2).1 x f)
  .rintro⟨h1,h2⟩
   exact⟨h1 b (zK ..),h2⟩
theorem UB: ∀l:Kvs,Srt l↔rising ltS (l.map Prod.fst)=true
 | []=>by simp[Srt,rising]
 | (a,b)::l=>by
  rw[yH,rising_cons,Srt,UB l];simp only[qU,forall_exists_index,and_imp];constructor
  .rintro⟨h1,h2⟩;exact⟨fun x p hp e=>e▸h1 p hp,h2⟩
  .rintro⟨h1,h2⟩;exact⟨fun p hp=>h1 _ p hp rfl,h2⟩
theorem look_none {k:Str} : ∀ {l:Kvs},(∀p∈l,p.1≠k)->lookP k l=none
 | [],_=>rfl
 | (a,b)::l,h=>by
  rw[lookP,if_neg (h (a,b) (zK ..))];exact look_none fun p hp=>h p (zC _ hp)
theorem zAs (k v x:Str): ∀l:Kvs,lookP x (putP k v l)=if x=k then some v else lookP x l
 | []=>by
  simp only[putP,lookP];by_cases h:x=k
  .rw[if_pos h.symm,if_pos h]
  .rw[if_neg (fun e=>h e.symm),if_neg h]
 | (a,b)::l=>by
  have i:=zAs k v x l;simp only[putP];split
  .rename_i e;subst e;simp only[lookP];by_cases h:x=a
   .rw[if_pos h.symm,if_pos h]
   .rw[if_neg (fun e=>h e.symm),if_neg h,if_neg (fun e=>h e.symm)]
  .rename_i f;split
   .simp only[lookP,i];by_cases h:x=k
    .subst h;rw[if_neg f,if_pos rfl,if_pos rfl]
    .rw[if_neg h,if_neg h]
   .simp only[lookP];by_cases h:x=k
    .rw[if_pos h.symm,if_pos h]
    .rw[if_neg (fun e=>h e.symm),if_neg h]
theorem mem_put {k v:Str}{p:Str×Str} : ∀ {l:Kvs},p∈putP k v l->p=(k,v)\/p∈l
 | [],h=>by simpa[putP]using h
 | (a,b)::l,h=>by
  simp only[putP]at h;split at h
  .rcases zP.1 h with h | h
   .exact .inl h
   .exact .inr (zC _ h)
  .split at h
   .rcases zP.1 h with h | h
    .exact .inr (h▸zK ..)
    .rcases mem_put h with h | h
     .exact .inl h
     .exact .inr (zC _ h)
   .rcases zP.1 h with h | h
    .exact .inl h
    .exact .inr h
theorem srt_put (k v:Str): ∀ {l:Kvs},Srt l->Srt (putP k v l)
 | [],_=>⟨by simp,trivial⟩
 | (a,b)::l,h=>by
  simp only[putP];split
  .rename_i e;subst e;exact h
  .rename_i j;split
   .rename_i f;refine⟨fun p hp=> ?_,srt_put k v h.2⟩;rcases mem_put hp with rfl | hp
    .exact f
    .exact h.1 p hp
   .rename_i f;have i:ltS k a=true:=by
     cases m:ltS k a with
     | true=>rfl
     | false=>exact absurd (fX (by simpa using f) m) j
    refine⟨fun p hp=> ?_,h⟩;rcases zP.1 hp with rfl | hp
    .exact i
    .exact kR i (h.1 p hp)
theorem mem_del {k:Str}{p:Str×Str} : ∀ {l:Kvs},p∈delP k l->p∈l
 | [],h=>h
 | (a,b)::l,h=>by
  simp only[delP]at h;split at h
  .exact zC _ h
  .rcases zP.1 h with h | h
   .exact h▸zK ..
   .exact zC _ (mem_del h)
theorem srt_del (k:Str): ∀ {l:Kvs},Srt l->Srt (delP k l)
 | [],_=>trivial
 | (a,b)::l,h=>by
  simp only[delP];split
  .exact h.2
  .exact⟨fun p hp=>h.1 p (mem_del hp),srt_del k h.2⟩
theorem zEz (k x:Str): ∀ {l:Kvs},Srt l->lookP x (delP k l)=if x=k then none else lookP x l
 | [],_=>by simp[delP,lookP]
 | (a,b)::l,h=>by
  have j:=zEz k x h.2;simp only[delP];split
  .rename_i e;subst e;by_cases f:x=a
   .rw[if_pos f,look_none];intro p hp e;subst f;exact d7 (h.1 p hp) e.symm
   .rw[if_neg f,lookP,if_neg (fun e=>f e.symm)]
  .rename_i i;simp only[lookP,j];by_cases f:x=k
   .subst f;rw[if_neg i,if_pos rfl,if_pos rfl]
   .rw[if_neg f,if_neg f]
def whereN (n:Node)(key:Str):Nat:=(n.keys.filter fun k=>ltS k key||(!n.leaf&&decide (k=key))).length
theorem whereN_le (n:Node)(key:Str):whereN n key<=n.keys.length:=List.length_filter_le _ _
def leafOf (l:Kvs):Node:=⟨true,l.map Prod.fst,l.map Prod.snd,[]⟩
theorem where_cons {a b key:Str}{l:Kvs}(h:Srt ((a,b)::l)):whereN (leafOf ((a,b)::l)) key=if ltS a key then whereN (leafOf l) key+1 else 0:=by
 simp only[whereN,leafOf,yH,Bool.not_true,Bool.false_and,Bool.or_false]
 cases hl:ltS a key with
 | true=>simp[hl]
 | false=>
  rw[List.filter_cons,hl];simp only[zL,qC];rw[List.length_eq_zero_iff,List.filter_eq_nil_iff];intro x i f;obtain⟨p,hp,rfl⟩:=qU.1 i;have:=kR (h.1 p hp) f;rw[hl]at this;cases this
def hereN (n:Node)(key:Str):Bool:=decide (whereN n key<n.keys.length)&&decide (n.keys.getD (whereN n key) []=key)
theorem here_look (key:Str): ∀ {l:Kvs},Srt l->hereN (leafOf l) key=(lookP key l).isSome
 | [],_=>by simp[hereN,leafOf,lookP]
 | (a,b)::l,h=>by
  have f:=here_look key h.2;have j:(leafOf ((a,b)::l)).keys=a::(leafOf l).keys:=rfl;simp only[hereN,where_cons h,lookP,j]at f⊢
  cases hl:ltS a key with
  | true=>
   have i:a≠key:=d7 hl;simp only[if_true,if_neg i,zW,Nat.add_lt_add_iff_right,List.getD_cons_succ];exact f
  | false=>
   simp only[zL,qC,zW,List.getD_cons_zero,Nat.zero_lt_succ,decide_true,Bool.true_and];by_cases e:a=key
   .simp[e]
   .rw[if_neg e,look_none]
    .simp[e]
    .intro p hp m;have:=h.1 p hp;rw[m,hl]at this;cases this
def zL0 (n:Node)(key value:Str):Node:=
 if hereN n key then⟨true,n.keys,n.vals.set (whereN n key) value,[]⟩
 else⟨true,n.keys.take (whereN n key)++[key]++n.keys.drop (whereN n key),n.vals.take (whereN n key)++[value]++n.vals.drop (whereN n key),[]⟩
def zPC (n:Node)(key:Str):Node:=⟨true,n.keys.take (whereN n key)++n.keys.drop (whereN n key+1),n.vals.take (whereN n key)++n.vals.drop (whereN n key+1),[]⟩
theorem put_leaf (key value:Str): ∀ {l:Kvs},Srt l->zL0 (leafOf l) key value=leafOf (putP key value l)
 | [],_=>by simp[zL0,hereN,leafOf,putP,whereN]
 | (a,b)::l,h=>by
  have f:=put_leaf key value h.2;have j:=here_look key h;have i:=here_look key h.2;simp only[zL0,j,i,where_cons h,lookP,putP]at f⊢;by_cases e:a=key
  .subst e;simp[kV,leafOf]
  .rw[if_neg e,if_neg e]
   cases hl:ltS a key with
   | true=>
    simp only[if_true];have g: ∀(q:Kvs),leafOf ((a,b)::q)=⟨true,a::(leafOf q).keys,b::(leafOf q).vals,[]⟩:=fun q=>rfl
    rw[g (putP key value l),<-f,g l];split
    .simp
    .simp
   | false=>
    have:lookP key l=none:=look_none fun p hp m=>by have:=h.1 p hp;rw[m,hl]at this;cases this
    rw[this];simp[leafOf]
theorem del_leaf (key:Str): ∀ {l:Kvs},Srt l->hereN (leafOf l) key=true->zPC (leafOf l) key=leafOf (delP key l)
 | [],_,h=>by simp[hereN,leafOf]at h
 | (a,b)::l,h,hr=>by
  have i:=here_look key h;have f:=here_look key h.2;rw[i]at hr;simp only[zPC,where_cons h,delP];by_cases e:a=key
  .subst e;simp[kV,leafOf]
  .simp only[lookP,if_neg e]at hr;rw[if_neg e];have hl:ltS a key=true:=by
    cases hl:ltS a key with
    | true=>rfl
    | false=>
     have:lookP key l=none:=look_none fun p hp j=>by have:=h.1 p hp;rw[j,hl]at this;cases this
     rw[this]at hr;cases hr
   have m:=del_leaf key h.2 (f.trans hr);simp only[hl,if_true];have g: ∀(q:Kvs),leafOf ((a,b)::q)=⟨true,a::(leafOf q).keys,b::(leafOf q).vals,[]⟩:=fun q=>rfl
   rw[g (delP key l),<-m,g l];simp[zPC]
def getN (n:Node)(key:Str):Option Str:=if n.leaf then lookP key (n.keys.zip n.vals)else none
theorem get_leaf (key:Str)(l:Kvs):getN (leafOf l) key=lookP key l:=by
 simp only[getN,leafOf,if_true];congr 1
 induction l with
 | nil=>rfl
 | cons p l ih=>simp[ih]
theorem leaf_shaped {l:Kvs}(h:Srt l)(a: ∀p∈l,mayK p.1=true/\p.2.length<=200):shaped ltS (leafOf l)=true:=by
 simp only[shaped,leafOf,if_true,zE,zR,y9,qU,forall_exists_index,and_imp,jB,true_and];exact⟨⟨fun x p hp e=>e▸(a p hp).1,(UB l).1 h⟩,fun x p hp e=>e▸(a p hp).2⟩
end Go.Nd
namespace Go.Eng.Sh
open Go.Nd (Ptr sumL cutOk cutA Q4 whereN getN lookP)
theorem zDq {f:Str->Bool}(l:List Str){i:Nat}(h:i<l.length):((l.take (i+1)).filter f).length=((l.take i).filter f).length+if f (l.getD i [])then 1 else 0:=by
 rw[qJ h,jF,zT,vN h];congr 1
 cases a:f l[i]<;>simp[a]
theorem Q6 (D:Dyn)(n:Nat)(U:200000000<=n){H:AH}(J:H.ok){v:AV}{nd:Nd.Node}{key:Str}(h:hU H v nd)(K:small nd):
  ∃H',f79 D n [v,S key] H=some (.int .i64 (whereN nd key:Nat),H')/\Prs H H':=by
 obtain⟨ks,vs,L,rfl,y,V,W⟩:=h;obtain⟨a,u⟩: ∃a,a=nd.leaf:=⟨_,rfl⟩;rw[<-u];have T:=Nd.sumL_ge nd.keys;obtain⟨Y,Z,s3⟩:=K;obtain⟨t,A1,b1,z,o,m1,n1⟩:=box J (.cells [.bool a,ks,vs,L] 119 1 false);have N:=y.prs z;have O:jY n (JY D n) [S key, .ptr A1 0, .int .i64 ((0:Nat):Int),ks, .int .i64 (nd.keys.length:Nat), .int .i64 ((0:Nat):Int)] t=some (.exit 0 [.int .i64 (whereN nd key:Nat)],t):=by
  refine vK (fun i=>[S key, .ptr A1 0, .int .i64 ((((nd.keys.take i).filter fun k=>ltS k key||(!nd.leaf&&decide (k=key))).length:Nat):Int),ks, .int .i64 (nd.keys.length:Nat), .int .i64 (i:Nat)]) nd.keys.length ?_ ?_ n (by omega)
  .intro i hi;obtain⟨p,q,f⟩:=N.at hi;rw[<-vN (d:=[])]at f;have j:((i:Nat):Int)< ((nd.keys.length:Nat):Int):=by omega
   rw[zDq nd.keys hi,<-u];have F:((nd.keys.take i).filter fun k=>ltS k key||(!a&&decide (k=key))).length<=nd.keys.length:=qP (List.length_filter_le _ _) (by rw[qA];omega);generalize((nd.keys.take i).filter fun k=>ltS k key||(!a&&decide (k=key))).length=c at F;generalize nd.keys.getD i []=x at f
   cases s:ltS x key with
   | true=>simp(disch:=omega) only[JY,XJ,eZ,j,q,f,s,yG]
   | false=>
    cases a with
    | true=>simp(disch:=omega) only[JY,XJ,eZ,j,q,f,s,jL o,yG,Nat.add_zero]
    | false=>
     by_cases C:x=key
     .subst C;simp(disch:=omega) only[JY,XJ,eZ,j,q,f,s,jL o,yG]
     .simp(disch:=omega) only[JY,XJ,eZ,j,q,f,s,jL o,C,yG,Nat.add_zero]
  .intro m;refine jU ?_;rw[j8];simp only[JY,eZ,yA,whereN]
 refine⟨t, ?_,z⟩;simp only[f79,eZ,b1,jL o,y.lnSl,O,zG9]
end Go.Eng.Sh
end
section
namespace Go.Eng
theorem K5 {k e n:Nat}{H:AH}{v:AV}{l:List AV}(h:kZ k e H v n l)(j:0<k)(u:0<n)(κ:IntKind):
  ∃r,vY k v (some (.int κ (n:Nat))) none none H=some r/\Rw k H r 0 []:=by
 have i:=kK κ (z:=((n:Nat):Int)) (by omega);simp only[y7]at i;have hb:Nat.blt 0 k=true:=by rw[qD];exact j
 have b1:Nat.ble n n=true:=by rw[qV];exact zQ _
 have b2:Nat.blt n n=false:=by rw[y8];intro h;rw[qD]at h;omega
 have p:Nat.beq n 0=false:=by rw[y8];intro h;have:=Nat.eq_of_beq_eq_true h;omega
 rcases h with⟨m,⟨rfl,rfl⟩ | ⟨A,rfl,o,a⟩⟩ | ⟨m,A,q,g,rfl,o,a,t⟩
 .omega
 .have f:kL l true k 0 1 k=n:=by
   simp only[kL,show((1 % 2).beq 0)=false from rfl,qH,yF,show Nat.beq 0 (1 / 2*k)=true from by simp,qN,zM,jX,m,jD];exact Nat.mul_div_cancel _ j
  refine⟨.emptySl, ?_,⟨by simp, .inr (.inl ⟨rfl,rfl⟩)⟩⟩;simp only[vY,kX,i,a,hb,zM];simp[K1,f,b1,b2,p,show Nat.beq 1 0=false from rfl]
 .have f:kL l g k 0 (2*n) k=n:=by
   simp only[kL,show((2*n) % 2).beq 0=true by rw[jC];rfl,zM,yQ n (show 0<2 by omega)]
  have s:Nat.beq (2*n / 2) n=true:=by rw[yQ n (show 0<2 by omega),yF]
  refine⟨.slice A 0 0 (2*(2*n / 2 - n)), ?_,⟨by simp, .inr (.inr ⟨A,0,_,l,q,k,g,rfl,a,o,by omega,by simp⟩)⟩⟩;simp only[vY,kX,i,a,hb,zM];simp[K1,f,b1,s,kD]
end Go.Eng
namespace Go.Eng.Sh
open Go.Nd (Ptr sumL)
theorem zCt (D:Dyn)(n:Nat){H:AH}(j:H.ok){v:AV}{l:List Str}(h:kZ 1 9 H v l.length (l.map S))(hl:l.length<=1000000000):
  ∃a H',f108 D n [v] H=some (a,H')/\Prs H H'/\kZ 1 9 H' a l.length (l.map S)/\(∀B,Blk a B->H.next<=B)/\(0<l.length->Own 1 9 H' a l.length (l.map S)):=by
 have hr:=h.row;by_cases s:v= .nilSlice
 .subst s;have z:l=[]:=by
   rcases h with⟨_,⟨_,i⟩ | ⟨A,i,_⟩⟩ | ⟨_,A,_,_,i,_⟩
   .exact zV i
   .cases i
   .cases i
  subst z;refine⟨.nilSlice,H, ?_,zRf j, .inl (zRo ..),fun B t=>(zRl.1 t).elim,fun h=>absurd h (by simp)⟩;have q:bZ .eql (eqS .nilSlice .nilSlice)=some (.bool true):=rfl;simp only[f108,eZ,q]
 .have C:v≠ .emptySl:=by
   rcases h with⟨_,⟨rfl,_⟩ | ⟨A,rfl,_⟩⟩ | ⟨_,A,_,_,rfl,_⟩<;>simp
  by_cases i:l.length=0
  .obtain⟨a,H',e,p,g,f⟩:=Y2 D n j hr s C hl;exact⟨a,H',e,p,g,f,fun h=>absurd h (by omega)⟩
  .have o:Prs H (H.push (.cells [] 9 1 false)):=(zRf j).push _;have u:(H.push (.cells [] 9 1 false)).h.get H.next=some (.cells [] 9 1 false):=zR8 _ _
   have K:(H.push (.cells [] 9 1 false)).next=H.next+1:=rfl
   generalize F:H.push (.cells [] 9 1 false)=H1 at o u K;have L:=VH (k:=1) (e:=9) (bytes:=16) (n:=0) (m:=l.length) (off:=0) (new:=l.map S) o.ok u (by simp) (by omega) (by omega) (by decide);have x:apP 9 1 16 (.slice H.next 0 0 0) v H1=some (.slice H1.next 0 (0+l.length) 1,H1.push (.cells (([]:List AV).drop 0 |>.take (0*1) |> (· ++l.map S)) 9 1 true)):=by
    simp only[apP,(hr.prs o).srcOf,vI,zM];exact L
   have J:dL 9 1 0 [.str 0 0] []=some (.cells [] 9 1 false,fun A=> .slice A 0 0 0):=rfl;have q:bZ .eql (eqS v .nilSlice)=some (.bool false):=by
    rcases h with⟨_,⟨rfl,_⟩ | ⟨A,rfl,_⟩⟩ | ⟨_,A,_,_,rfl,_⟩
    .exact absurd rfl s
    .rfl
    .rfl
   simp only[List.drop_nil,List.take_nil,qS,yW]at x;have y:Own 1 9 (H1.push (.cells (l.map S) 9 1 true)) (.slice H1.next 0 l.length 1) l.length (l.map S):=⟨by simp, .inr ⟨_,rfl,Nat.lt_succ_self _,zR8 _ _⟩⟩
   refine⟨.slice H1.next 0 l.length 1,H1.push (.cells (l.map S) 9 1 true), ?_,o.push _, .inl y,fun B t=>by rw[zRd.1 t];omega,fun _=>y⟩
   simp only[f108,eZ,q,J,kT j,F,x]
theorem zC0 (D:Dyn)(n:Nat){H:AH}(m:H.ok){v:AV}{l:List Str}{i B:Nat}{x:Str}(h:kZ 1 9 H v l.length (l.map S))(N:0<l.length->Own 1 9 H v l.length (l.map S))(hi:i<=l.length)(hl:l.length<=200000000)(q:H.h.get B=some (.cells [S x] 9 1 false)):
  ∃a H',zOb D n [v, .int .i64 (i:Nat), .slice B 0 1 2] H=some (a,H')/\Stp (Blk v) H H'/\kZ 1 9 H' a (l.take i++[x]++l.drop i).length ((l.take i++[x]++l.drop i).map S)/\ ∀C,Blk a C->Blk v C\/H.next<=C:=by
 have O:Strs H (.slice B 0 1 2) [x]:=Rw.lit (cc:=2) m q;have l1:lnSl (.slice B 0 1 2)=some (.int .i64 ((1:Nat):Int)):=rfl;have o: ¬((1:Nat):Int)=((0:Nat):Int):=by omega
 by_cases J:i=l.length
 .subst J;have T: ∃r,vY 1 v (some (.int .i64 (l.length:Nat))) none none H=some r:=by
   by_cases s:0<l.length
   .obtain⟨r,e,_⟩:=K5 h (by decide) s .i64;exact⟨r,e⟩
   .have f:l.length=0:=by omega
    rw[f];rcases h with⟨_,⟨rfl,_⟩ | ⟨A,rfl,_,j⟩⟩ | ⟨_,A,e',g,rfl,_,j,_⟩
    .exact⟨.nilSlice,rfl⟩
    .rw[f];have:l=[]:=zV f;subst this;exact⟨.slice A 0 0 1,by simp[vY,kX,kK,j,K1,kD,kL,show Nat.blt 0 1=true from rfl,show Nat.ble 0 0=true from rfl,show Nat.beq 1 0=false from rfl,show Nat.beq 0 0=true from rfl,YU,show Nat.beq 1 1=true from rfl,Z4,bne]⟩
    .rw[f];have:l=[]:=zV f;subst this;exact⟨.slice A 0 0 0,by simp[vY,kX,kK,j,K1,kD,kL,show Nat.blt 0 1=true from rfl,show Nat.ble 0 0=true from rfl,show Nat.beq 0 0=true from rfl,YU]⟩
  obtain⟨r,hr⟩:=T;obtain⟨a,H',U,V,W,Y⟩:=h.app (bytes:=16) m (by decide) O.srcOf (by simp) (vI _) (by simp;omega) (by decide);refine⟨a,H', ?_,W,by simpa using V,Y⟩;have:f138 D n [v, .int .i64 (l.length:Nat), .slice B 0 1 2] H=some (a,H'):=by
   simp only[f138,eZ,hr,l1,o,h.row.lnSl,U]
  show zOn (f138 D n) _ H=_;simp only[zOn,this]
 .have p:i<l.length:=by omega
  have Z:=N (by omega);obtain⟨_,⟨_,s⟩ | ⟨A,rfl,t,j⟩⟩:=id Z
  .omega
  .obtain⟨r,hr,_⟩:=YL h (by decide) p .i64;have u: ¬((i:Nat):Int)=((l.length:Nat):Int):=by omega
   have y:zPd X 117 (.slice A 0 l.length 1)=none:=rfl;have K:f138 D n [.slice A 0 l.length 1, .int .i64 (i:Nat), .slice B 0 1 2] H=none:=by
    simp(disch:=omega) only[f138,eZ,hr,l1,o,h.row.lnSl,u,y];rfl
   have b1:Nat.blt i l.length=true:=by rw[qD];exact p
   have b2:Nat.ble ((l.length+1)*16) 140737488355328=true:=by rw[qV];omega
   have L:(H.put A .dead).ok:=m.put t _;refine⟨.slice (H.put A .dead).next 0 (l.length+1) 1,(H.put A .dead).push (.cells ((l.map S).take i++[S x]++(l.map S).drop i) 9 1 true), ?_,((zRf m).put t _ (.inr (zRd.2 rfl))).push _, ?_,fun C hC=> .inr (by rw[zRd.1 hC];exact zQ _)⟩
   .show zOn (f138 D n) _ H=_;simp only[zOn,K];show zPu 9 [.slice A 0 l.length 1, .int .i64 (.ofNat i), .slice B 0 1 2] H=_;simp only[zPu,j,q,b1,b2,vI,jX,jB,yF,show Nat.blt 0 1=true from rfl,show Nat.beq 1 1=true from rfl,show Nat.beq 0 0=true from rfl,show Nat.beq 9 9=true from rfl,qN,Bool.not_false,zM,uU,takeN,jP,JV,kO,aW,ZO L,kD]
   .have z:(l.take i++[x]++l.drop i).length=l.length+1:=by simp;omega
    have F:(l.take i++[x]++l.drop i).map S=(l.map S).take i++[S x]++(l.map S).drop i:=by simp
    rw[z,F];exact .inl ⟨by simp;omega, .inr ⟨_,rfl,Nat.lt_succ_self _,zR8 _ _⟩⟩
end Go.Eng.Sh
end
section
namespace Go.Eng
theorem Own.set1 {e:Nat}{H:AH}{v:AV}{l:List Str}(f:H.ok)(h:Own 1 e H v l.length (l.map S)){i:Nat}(hi:i<l.length)(x:Str):
  ∃p H',(∀κ (z:Int),z=(i:Int)->uX 1 v (.int κ z)=some p)/\stN 1 p (S x) H=some (jO,H')/\Own 1 e H' v (l.set i x).length ((l.set i x).map S)/\Stp (Blk v) H H':=by
 obtain⟨o,⟨_,q⟩ | ⟨A,rfl,a,j⟩⟩:=h
 .omega
 .have hb:Nat.blt i l.length=true:=by rw[qD];exact hi
  refine⟨.ptr A (0+i*1),_,fun κ z m=> ?_,dW j (by decide) (JV x) (by simpa using hi),⟨by simp, .inr ⟨A,by simp,a,by rw[zRc,if_pos rfl];simp[List.map_set]⟩⟩,(zRf f).put a _ (.inr (zRd.2 rfl))⟩;subst m;simp only[uX,kK κ (show(0:Int)<=(i:Int)by omega),y7,hb,zM,kD]
end Go.Eng
namespace Go.Eng.Sh
open Go.Nd (Ptr sumL whereN hereN zL0)
def zFP (nd:Nd.Node)(key value:Str):Bool:=Nd.shaped ltS nd&&nd.leaf&&Nd.mayK key&&decide (value.length<=200)
theorem zKZ (D:Dyn)(n:Nat)(hn:200000000<=n){H:AH}(hk:H.ok){v:AV}{nd:Nd.Node}{key value:Str}(h:kC H v nd)(hs:small nd):
  ∃u H',f89 D n [v,S key,S value] H=some (.tuple [u, .int .i64 ((if zFP nd key value then 0 else 1:Nat):Int)],H')/\Prs H H'/\vT H.next H' u (if zFP nd key value then zL0 nd key value else nd0):=by
 have i0:=h.node;obtain⟨ks,vs,ps,rfl,h1,h2,h3⟩:=h;have h9:=Nd.sumL_ge nd.keys;have i5:=Nd.sumL_ge nd.vals;have s0:=hs;obtain⟨s1,s2,s3⟩:=hs;obtain⟨la,b0⟩: ∃la,la=nd.leaf:=⟨_,rfl⟩;obtain⟨po,t⟩: ∃po,po=zFP nd key value:=⟨_,rfl⟩;rw[<-t,<-b0];rw[<-b0]at i0;simp only[zFP,<-b0]at t;obtain⟨H1,A1,b1,p1,g1,m1,n1⟩:=box hk (.cells [.bool la,ks,vs,ps] 119 1 false);obtain⟨H2,A2,b2,p2,g2,m2,n2⟩:=box p1.ok (.cells [.bool false, .nilSlice, .nilSlice, .nilSlice] 119 1 false);have P2:Prs H H2:=p1.trans p2;have T:=p2.get p1.ok g1;obtain⟨y,Z,p4⟩:=bE D n P2.ok (i0.prs P2) s0 hn;have F:=P2.trans p4;have U:=p4.get P2.ok T;have d0:=p4.get P2.ok g2;obtain⟨Hr,er,gr,sr,nr⟩:=jW F.ok d0 (l':=[.bool false, .nilSlice, .nilSlice, .nilSlice]) rfl rfl;have b3:stN 4 (.ptr A2 0) (.agg [.bool false, .nilSlice, .nilSlice, .nilSlice]) y=some (jO,Hr):=er;have Pr:Prs H Hr:=F.fresh sr (fun B a=>by omega);have lr:=bY gr rfl
 cases c1:Nd.shaped ltS nd with
 | false=>
  simp only[c1,Bool.false_and,Bool.and_false]at t;subst t;refine⟨.agg [.bool false, .nilSlice, .nilSlice, .nilSlice],Hr, ?_,Pr,vT.zero _ _⟩;simp only[zL,qC];simp(maxSteps:=999999)(disch:=omega) only[f89,eZ,b1,b2,jQ T,ZJ,zZ,Z,c1,ZY,b3,lr]
 | true=>
 cases la with
 | false=>
  simp only[Bool.false_and,Bool.and_false]at t;subst t;refine⟨.agg [.bool false, .nilSlice, .nilSlice, .nilSlice],Hr, ?_,Pr,vT.zero _ _⟩;simp only[zL,qC];simp(maxSteps:=999999)(disch:=omega) only[f89,eZ,b1,b2,jQ T,ZJ,zZ,Z,c1,jL U,ZY,b3,lr]
 | true=>
 cases c2:Nd.mayK key with
 | false=>
  simp only[c2,Bool.false_and,Bool.and_false]at t;subst t;refine⟨.agg [.bool false, .nilSlice, .nilSlice, .nilSlice],Hr, ?_,Pr,vT.zero _ _⟩;simp only[zL,qC];simp(maxSteps:=999999)(disch:=omega) only[f89,eZ,b1,b2,jQ T,ZJ,zZ,Z,c1,jL U,wE,c2,ZY,b3,lr]
 | true=>
 by_cases c3:value.length<=200
 case neg=>
  have a1:((200:Nat):Int)< ((value.length:Nat):Int):=by omega
  simp only[c3,decide_false,Bool.and_false]at t;subst t;refine⟨.agg [.bool false, .nilSlice, .nilSlice, .nilSlice],Hr, ?_,Pr,vT.zero _ _⟩
  .simp only[zL,qC];simp(maxSteps:=999999)(disch:=omega) only[f89,eZ,b1,b2,jQ T,ZJ,zZ,Z,c1,jL U,wE,c2,a1,ZY,b3,lr]
 case pos=>
 have a1: ¬((200:Nat):Int)< ((value.length:Nat):Int):=by omega
 simp only[c1,c2,c3,decide_true,qN]at t;subst t;simp only[if_true];have i6:nd.vals.length=nd.keys.length:=by
  simp only[Nd.shaped,<-b0,if_true,zE,zR]at c1;exact c1.2.1.1
 obtain⟨H5,N,b5,p5,g5,m5,n5⟩:=box F.ok (.cells [.bool false, .nilSlice, .nilSlice, .nilSlice] 119 1 false);have P5:=F.trans p5;have up1 {f:AH} (p:Prs y f):=zRn p F.ok U;have up2 {f:AH} (p:Prs y f):=zRn p F.ok d0;have q1 {f:AH} (p:Prs H f):kZ 1 9 f ks nd.keys.length (nd.keys.map S):=h1.mono p (fun _ _ x=>x);have q2 {f:AH} (p:Prs H f):kZ 1 9 f vs nd.vals.length (nd.vals.map S):=h2.mono p (fun _ _ x=>x);obtain⟨C,H6,e6,p6,o6,f6,t6⟩:=zCt D n P5.ok (q1 P5) (by omega);have P6:=P5.trans p6;obtain⟨j,H7,e7,p7,o7,f7,t7⟩:=zCt D n P6.ok (q2 P6) (by omega);have P7:=P6.trans p7;obtain⟨H8,e8,g8,s8,n8⟩:=jW P7.ok (zRn (p6.trans p7) P5.ok g5) (l':=[.bool true,C,j, .nilSlice]) rfl (by simp only[jP,o6.row.isCell,o7.row.isCell];rfl);have b7:stN 4 (.ptr N 0) (.agg [.bool true,C,j, .nilSlice]) H7=some (jO,H8):=e8;have N6:=p6.next
 have N7:=p7.next
 have f2:Prs y H7:=(p5.trans p6).trans p7;have a2:Prs y H8:=f2.fresh s8 (fun B a=>by omega);have P8:=F.trans a2;have k1:kZ 1 9 H8 C nd.keys.length (nd.keys.map S):=(o6.mono p7 (fun _ _ x=>x)).mono s8 (fun B a e=>by have:=f6 B a;omega);have k2:kZ 1 9 H8 j nd.vals.length (nd.vals.map S):=o7.mono s8 (fun B a e=>by have:=f7 B a;omega);have V: ∀B,Blk C B->N<B/\B<H6.next:=fun B a=>⟨by have:=f6 B a;omega,o6.lt a⟩
 have m: ∀B,Blk j B->H6.next<=B/\B<H8.next:=fun B a=>⟨f7 B a,k2.lt a⟩
 obtain⟨H9,e9,J⟩:=Q6 D n hn P8.ok (key:=key) (i0.prs P8) s0;have P9:=P8.trans J;have a3:Prs y H9:=a2.trans J;have a4:=J.get P8.ok g8;have f3:=Nd.whereN_le nd key;have b8:=h1.row.lnSl;have N9:=J.next
 have N5:=p5.next
 have N4:=p4.next
 have d1: ∀ {f:AH} {l:List AV},Prs H f->f.h.get A2=some (.cells [.bool false, .nilSlice, .nilSlice, .nilSlice] 119 1 false)->l.length=4->jP l=true-> ∃O,stN 4 (.ptr A2 0) (.agg l) f=some (jO,O)/\Prs H O/\Stp (fun B=>B=A2) f O/\ldN 4 (.ptr A2 0) O=some (.agg l):=fun {f l} px hg hl hc=>by
  obtain⟨O,e,g,s,_⟩:=jW px.ok hg hl hc;have e':stN 4 (.ptr A2 0) (.agg l) f=some (jO,O):=e;exact⟨O,e',px.fresh s (fun B a=>by omega),s,bY g hl⟩
 obtain⟨W,B1,d2,K,f4,i7,i8⟩:=box P9.ok (.cells [S key] 9 1 false);have f5:Prs y W:=a3.trans K;have f8:0<nd.keys.length->Own 1 9 W C nd.keys.length (nd.keys.map S):=fun h=>(((t6 h).mono p7 (fun _ _ x=>x)).mono s8 (fun B a e=>by have:=f6 B a;omega)).mono (J.trans K) (fun _ _ x=>x)
 obtain⟨z,d3,d4,a5,b9,f9⟩:=zC0 D n K.ok (k1.mono (J.trans K) (fun _ _ x=>x)) f8 f3 (by omega) (x:=key) f4;have g0:d3.h.get N=some (.cells [.bool true,C,j, .nilSlice] 119 1 false):=by rw[a5.keep _ (by have:=K.next;omega) (fun a=>by have:=V _ a;omega)];exact K.get P9.ok a4
 have d5:Prs y d3:=f5.fresh a5 (fun B a=>by have:=V B a;omega);obtain⟨d6,d7,a0,a6,i9⟩:=xU d5.ok g0 (o:=1) (x:=z) b9.row.isCell (by simp);have a0:d6.h.get N=some (.cells [.bool true,z,j, .nilSlice] 119 1 false):=a0;have c0:Prs y d6:=d5.fresh a6 (fun B a=>by omega);obtain⟨c4,B2,d8,Y,g3,j0,j3⟩:=box c0.ok (.cells [S value] 9 1 false);have g4:Prs y c4:=c0.trans Y;have d9: ∀B,Blk j B-> ¬Blk C B:=fun B a a7=>by have:=V B a7;have:=m B a;omega
 have g6:kZ 1 9 c4 j nd.vals.length (nd.vals.map S):=(((k2.mono (J.trans K) (fun _ _ x=>x)).mono a5 d9).mono a6 (fun B a e=>by have:=m B a;omega)).mono Y (fun _ _ x=>x);have g7:0<nd.vals.length->Own 1 9 c4 j nd.vals.length (nd.vals.map S):=fun h=>(((((t7 h).mono s8 (fun B a e=>by have:=f7 B a;omega)).mono (J.trans K) (fun _ _ x=>x)).mono a5 d9).mono a6 (fun B a e=>by have:=m B a;omega)).mono Y (fun _ _ x=>x)
 obtain⟨L,e0,e1,c5,c6,g9⟩:=zC0 D n Y.ok g6 g7 (i:=whereN nd key) (by omega) (by omega) (x:=value) g3;have j4:=K.next
 have j5:=a5.next
 have j6:=a6.next
 have j7:=Y.next
 have h0:e0.h.get N=some (.cells [.bool true,z,j, .nilSlice] 119 1 false):=by rw[c5.keep _ (by omega) (fun a=>by have:=m _ a;omega)];exact Y.get c0.ok a0
 have e2:Prs y e0:=g4.fresh c5 (fun B a=>by have:=m B a;omega);obtain⟨e3,e5,b4,c7,j8⟩:=xU e2.ok h0 (o:=2) (x:=L) c6.row.isCell (by simp);have b4:e3.h.get N=some (.cells [.bool true,z,L, .nilSlice] 119 1 false):=b4;have f1:Prs y e3:=e2.fresh c7 (fun B a=>by omega);have h4:jP [.bool true,z,L, .nilSlice]=true:=by simp only[jP,b9.row.isCell,c6.row.isCell];rfl
 obtain⟨Hz,ez,Pz,sz,lz⟩:=d1 (l:=[.bool true,z,L, .nilSlice]) (F.trans f1) (up2 f1) rfl h4;have a8: ∀B,Blk z B->N<B/\(B<H6.next\/W.next<=B):=fun B a=>by
  rcases f9 B a with h | h
  .have:=V B h;omega
  .omega
 have c8: ∀B,Blk L B->N<B:=fun B a=>by
  rcases g9 B a with h | h
  .have:=m B h;omega
  .omega
 have j9:=F.next
 have rz:vT H.next Hz (.agg [.bool true,z,L, .nilSlice]) ⟨true,nd.keys.take (whereN nd key)++[key]++nd.keys.drop (whereN nd key),nd.vals.take (whereN nd key)++[value]++nd.vals.drop (whereN nd key),[]⟩:=
  ⟨⟨z,L, .nilSlice,rfl,((((b9.mono a6 (fun B a e=>by have:=a8 B a;omega)).mono Y (fun _ _ x=>x)).mono c5 (fun B a a7=>by have:=a8 B a;have:=m B a7;omega)).mono c7 (fun B a e=>by have:=a8 B a;omega)).mono sz (fun B a e=>by have:=a8 B a;omega),
   (c6.mono c7 (fun B a e=>by have:=c8 B a;omega)).mono sz (fun B a e=>by have:=c8 B a;omega), .inl (zRo ..)⟩,fun B a=>by
     rcases wO.1 a with h | h | h
     .have:=a8 B h;omega
     .have:=c8 B h;omega
     .exact(zRl.1 h).elim⟩
 by_cases c9:whereN nd key<nd.keys.length
 .obtain⟨q,j1,j2⟩:=(q1 P9).row |> (fun(r:Strs H9 ks nd.keys)=>r.at c9);rw[<-vN (d:=[])]at j2;have a9:((whereN nd key:Nat):Int)< ((nd.keys.length:Nat):Int):=by omega
  by_cases b6:nd.keys.getD (whereN nd key) []=key
  .have hh:hereN nd key=true:=by simp only[hereN,b6,decide_true,Bool.and_true,zR];exact c9
   rw[b6]at j2;have h5:=(t7 (by omega)).mono s8 (fun B a e=>by have:=f7 B a;omega);obtain⟨p,W,i1,i2,i3,i4⟩:=Own.set1 P9.ok (h5.mono J (fun _ _ x=>x)) (i:=whereN nd key) (by omega) value;have h6:Prs H W:=P9.fresh i4 (fun B a=>by have:=m B a;have:=P5.next;omega)
   have h7:W.h.get N=some (.cells [.bool true,C,j, .nilSlice] 119 1 false):=by rw[i4.keep _ (by omega) (fun a=>by have:=m _ a;omega)];exact a4
   have h8:W.h.get A2=some (.cells [.bool false, .nilSlice, .nilSlice, .nilSlice] 119 1 false):=by rw[i4.keep _ (by omega) (fun a=>by have:=m _ a;omega)];exact up2 a3
   obtain⟨O,ey,Py,sy,ly⟩:=d1 (l:=[.bool true,C,j, .nilSlice]) h6 h8 rfl (by simp only[jP,o6.row.isCell,o7.row.isCell];rfl);refine⟨.agg [.bool true,C,j, .nilSlice],O, ?_,Py, ?_⟩
   .simp(maxSteps:=999999)(disch:=omega) only[f89,eZ,b1,b2,jQ T,ZJ,zZ,Z,c1,jL U,wE,c2,a1,b5,e6,wC (jL (up1 (p5.trans p6)) 2) (kH h2.row),e7,zJS _ o6.row.isCell o7.row.isCell,b7,jQ (up1 a2),e9,jL (up1 a3),b8,a9,j1,j2,jL a4,i1,i2,bY h7 rfl,ey,ly]
   .have:zL0 nd key value=⟨true,nd.keys,nd.vals.set (whereN nd key) value,[]⟩:=by simp only[zL0,hh,if_true]
    rw[this];have NN:=F.next
    refine⟨⟨C,j, .nilSlice,rfl, ?_, ?_, .inl (zRo ..)⟩,fun B a=>by
     rcases wO.1 a with h | h | h
     .have:=V B h;omega
     .have:=m B h;omega
     .exact(zRl.1 h).elim⟩
    .exact((k1.mono J (fun _ _ x=>x)).mono i4 (fun B a a7=>by have:=V B a;have:=m B a7;omega)).mono sy (fun B a e=>by have:=V B a;omega)
    .exact .inl (i3.mono sy (fun B a e=>by have:=m B a;omega))
  .have hh:hereN nd key=false:=by simp only[hereN,b6,decide_false,Bool.and_false]
   refine⟨.agg [.bool true,z,L, .nilSlice],Hz, ?_,Pz, ?_⟩
   .simp(maxSteps:=999999)(disch:=omega) only[f89,eZ,b1,b2,jQ T,ZJ,zZ,Z,c1,jL U,wE,c2,a1,b5,e6,wC (jL (up1 (p5.trans p6)) 2) (kH h2.row),e7,zJS _ o6.row.isCell o7.row.isCell,b7,jQ (up1 a2),e9,jL (up1 a3),b8,a9,j1,j2,b6,jL a4,zNP 9 (.str 0 0) (JV key),d2,d4,d7,jL a0,zNP 9 (.str 0 0) (JV value),d8,e1,e5,bY b4 rfl,ez,lz]
   .simp only[zL0,hh,zL,qC];exact rz
 .have hh:hereN nd key=false:=by simp only[hereN,c9,decide_false,Bool.false_and]
  have a9: ¬((whereN nd key:Nat):Int)< ((nd.keys.length:Nat):Int):=by omega
  refine⟨.agg [.bool true,z,L, .nilSlice],Hz, ?_,Pz, ?_⟩
  .simp(maxSteps:=999999)(disch:=omega) only[f89,eZ,b1,b2,jQ T,ZJ,zZ,Z,c1,jL U,wE,c2,a1,b5,e6,wC (jL (up1 (p5.trans p6)) 2) (kH h2.row),e7,zJS _ o6.row.isCell o7.row.isCell,b7,jQ (up1 a2),e9,jL (up1 a3),b8,a9,jL a4,zNP 9 (.str 0 0) (JV key),d2,d4,d7,jL a0,zNP 9 (.str 0 0) (JV value),d8,e1,e5,bY b4 rfl,ez,lz]
  .simp only[zL0,hh,zL,qC];exact rz
open Go.Nd (zPC)
theorem hi1 {H:AH}{v:AV}{l:List Str}(h:kZ 1 9 H v l.length (l.map S)){i:Nat}(hi:i<=l.length):
  ∃r,vY 1 v none (some (.int .i64 (i:Nat))) (some (.int .i64 (i:Nat))) H=some r/\Strs H r (l.take i):=by
 obtain⟨r,f,w,_⟩:=zAd h (by decide) hi .i64 .i64;rw[map_take]at w;have a:(l.take i).length=i:=by rw[qA];omega
 exact⟨r,f,by rw[Strs,a];exact w⟩
theorem lo1 {H:AH}{v:AV}{l:List Str}(h:kZ 1 9 H v l.length (l.map S)){i:Nat}(hi:i<=l.length)(m:0<l.length):
  ∃r,vY 1 v (some (.int .i64 (i:Nat))) none none H=some r/\Strs H r (l.drop i):=by
 by_cases j:i<l.length
 .obtain⟨r,a,w,_⟩:=YL h (by decide) j .i64;rw[map_drop]at w;have f:(l.drop i).length=l.length - i:=by rw[qK]
  exact⟨r,a,by rw[Strs,f];exact w⟩
 .obtain rfl:i=l.length:=by omega
  obtain⟨r,a,w⟩:=K5 h (by decide) m .i64;exact⟨r,a,by rw[List.drop_length];exact w⟩
def zPD (nd:Nd.Node)(key:Str):Nat:=if Nd.shaped ltS nd&&nd.leaf then(if hereN nd key then 0 else 5)else 1
theorem zLJ (D:Dyn)(n:Nat)(hn:200000000<=n){H:AH}(hk:H.ok){v:AV}{nd:Nd.Node}{key:Str}(h:kC H v nd)(hs:small nd):
  ∃u H',f84 D n [v,S key] H=some (.tuple [u, .int .i64 ((zPD nd key:Nat):Int)],H')/\Prs H H'/\vT H.next H' u (if zPD nd key=0 then zPC nd key else nd0):=by
 have i0:=h.node;obtain⟨ks,vs,ps,rfl,h1,h2,h3⟩:=h;have a9:=Nd.sumL_ge nd.keys;have b0:=Nd.sumL_ge nd.vals;have s0:=hs;obtain⟨s1,s2,s3⟩:=hs;obtain⟨W,N⟩: ∃W,W=nd.leaf:=⟨_,rfl⟩;obtain⟨po,a⟩: ∃po,po=zPD nd key:=⟨_,rfl⟩;rw[<-a,<-N];rw[<-N]at i0;simp only[zPD,<-N]at a;obtain⟨H1,A1,b1,p1,g1,m1,n1⟩:=box hk (.cells [.bool W,ks,vs,ps] 119 1 false);obtain⟨H2,A2,b2,p2,g2,m2,n2⟩:=box p1.ok (.cells [.bool false, .nilSlice, .nilSlice, .nilSlice] 119 1 false);have C:Prs H H2:=p1.trans p2;have y:=p2.get p1.ok g1;obtain⟨H4,F,Y⟩:=bE D n C.ok (i0.prs C) s0 hn;have t:=C.trans Y;have o:=Y.get C.ok y;have a5:=Y.get C.ok g2;have a0: ∀ {f:AH} {l:List AV},Prs H4 f->l.length=4->jP l=true-> ∃m,stN 4 (.ptr A2 0) (.agg l) f=some (jO,m)/\Prs H m/\Stp (fun B=>B=A2) f m/\ldN 4 (.ptr A2 0) m=some (.agg l):=fun {f l} px hl hc=>by
  obtain⟨m,e,g,s,_⟩:=jW px.ok (zRn px t.ok a5) hl hc;have e':stN 4 (.ptr A2 0) (.agg l) f=some (jO,m):=e;exact⟨m,e',(t.trans px).fresh s (fun B z=>by omega),s,bY g hl⟩
 obtain⟨Hr,er,Pr,sr,lr⟩:=a0 (Prs.refl t.ok) (l:=[.bool false, .nilSlice, .nilSlice, .nilSlice]) rfl rfl
 cases c1:Nd.shaped ltS nd with
 | false=>
  simp only[c1,Bool.false_and,zL,qC]at a;subst a;refine⟨.agg [.bool false, .nilSlice, .nilSlice, .nilSlice],Hr, ?_,Pr,vT.zero _ _⟩;simp(maxSteps:=999999)(disch:=omega) only[f84,eZ,b1,b2,jQ y,ZJ,zZ,F,c1,ZY,er,lr]
 | true=>
 cases W with
 | false=>
  simp only[Bool.and_false,zL,qC]at a;subst a;refine⟨.agg [.bool false, .nilSlice, .nilSlice, .nilSlice],Hr, ?_,Pr,vT.zero _ _⟩;simp(maxSteps:=999999)(disch:=omega) only[f84,eZ,b1,b2,jQ y,ZJ,zZ,F,c1,jL o,ZY,er,lr]
 | true=>
 have b3:nd.vals.length=nd.keys.length:=by
  simp only[Nd.shaped,<-N,if_true,zE,zR]at c1;exact c1.2.1.1
 simp only[c1,qN,if_true]at a;obtain⟨H5,e5,J⟩:=Q6 D n hn t.ok (key:=key) (i0.prs t) s0;have j:=t.trans J;have O:=J.get t.ok o;have b4:=Nd.whereN_le nd key;have a1:=h1.row.lnSl;obtain⟨Hs,es,Ps,ss,ls⟩:=a0 J (l:=[.bool false, .nilSlice, .nilSlice, .nilSlice]) rfl rfl;have q1 {f:AH} (p:Prs H f):kZ 1 9 f ks nd.keys.length (nd.keys.map S):=h1.mono p (fun _ _ x=>x);have q2 {f:AH} (p:Prs H f):kZ 1 9 f vs nd.vals.length (nd.vals.map S):=h2.mono p (fun _ _ x=>x);by_cases a2:whereN nd key<nd.keys.length
 case neg=>
  have K:hereN nd key=false:=by simp only[hereN,a2,decide_false,Bool.false_and]
  have L:((nd.keys.length:Nat):Int)<=((whereN nd key:Nat):Int):=by omega
  simp only[K,zL,qC]at a;subst a;refine⟨.agg [.bool false, .nilSlice, .nilSlice, .nilSlice],Hs, ?_,Ps,vT.zero _ _⟩;simp(maxSteps:=999999)(disch:=omega) only[f84,eZ,b1,b2,jQ y,ZJ,zZ,F,c1,jL o,jQ o,e5,jL O,a1,L,ZY,es,ls]
 case pos=>
 obtain⟨q,j1,j2⟩:=(q1 j).row |> (fun(r:Strs H5 ks nd.keys)=>r.at a2);rw[<-vN (d:=[])]at j2;have L: ¬((nd.keys.length:Nat):Int)<=((whereN nd key:Nat):Int):=by omega
 by_cases T:nd.keys.getD (whereN nd key) []=key
 case neg=>
  have K:hereN nd key=false:=by simp only[hereN,T,decide_false,Bool.and_false]
  simp only[K,zL,qC]at a;subst a;refine⟨.agg [.bool false, .nilSlice, .nilSlice, .nilSlice],Hs, ?_,Ps,vT.zero _ _⟩;simp(maxSteps:=999999)(disch:=omega) only[f84,eZ,b1,b2,jQ y,ZJ,zZ,F,c1,jL o,jQ o,e5,jL O,a1,L,j1,j2,ne_eq,T,j6,ZY,es,ls]
 case pos=>
 have K:hereN nd key=true:=by simp only[hereN,T,decide_true,Bool.and_true,zR];exact a2
 simp only[K,if_true]at a;subst a;generalize hw:whereN nd key=i at*
 obtain⟨r1,a6,x1⟩:=hi1 (q1 j) (i:=i) (by omega);obtain⟨r2,a3,x2⟩:=lo1 (q1 j) (i:=i+1) (by omega) (by omega);obtain⟨r3,a7,x3⟩:=hi1 (q2 j) (i:=i) (by omega);obtain⟨r4,a4,x4⟩:=lo1 (q2 j) (i:=i+1) (by omega) (by omega);obtain⟨H6,A6,b6,p6,g6,m6,n6⟩:=box j.ok (.cells [r1,r2] 117 1 false);have Z:=j.trans p6;obtain⟨H7,A7,b7,p7,g7,m7,n7⟩:=box Z.ok (.cells [r3,r4] 117 1 false);have P7:=Z.trans p7;have U:Prs H5 H7:=p6.trans p7;obtain⟨w8,H8,e8,p8,o8,f8⟩:=zLO D n (cc:=4) P7.ok (p7.get Z.ok g6) (x1.prs U) (x2.prs U) (by simp only[qA,qK];omega) (by omega);have P8:=P7.trans p8;have V:=U.trans p8;obtain⟨w9,H9,e9,p9,o9,f9⟩:=zLO D n (cc:=4) P8.ok (p8.get P7.ok g7) (x3.prs V) (x4.prs V) (by simp only[qA,qK];omega) (by omega);have a8:=V.trans p9;obtain⟨m,ey,Py,sy,ly⟩:=a0 (J.trans a8) (l:=[.bool true,w8,w9, .nilSlice]) rfl (by simp only[jP,o8.row.isCell,o9.row.isCell];rfl);have N7:=U.next;have N5:=J.next;have N4:=Y.next;have N8:=p8.next
 simp only[yG]at a3 a4;have up {f:AH} (p:Prs H5 f):=zRn p j.ok O;refine⟨.agg [.bool true,w8,w9, .nilSlice],m, ?_,Py, ?_⟩
 .simp(maxSteps:=999999)(disch:=omega) only[f84,eZ,b1,b2,jQ y,ZJ,zZ,F,c1,jL o,jQ o,e5,jL O,a1,L,j1,j2,ne_eq,T,not_true_eq_false,a6,a3,zQ3 117 .nilSlice x1.isCell x2.isCell rfl,b6,jL (up p6),bD (q2 j) (q2 Z) (by decide),a7,a4,zQ3 117 .nilSlice x3.isCell x4.isCell rfl,b7,e8,
   wC (jL (up V) 2) (kH h2.row),bD (q2 j) (q2 P8) (by decide),wC rfl (kH x3),wC rfl (kH x4),e9,zJS _ o8.row.isCell o9.row.isCell,ey,ly]
 .simp only[if_true,zPC,hw];have NN:=P7.next
  exact⟨⟨w8,w9, .nilSlice,rfl, .inl ((o8.mono p9 (fun _ _ x=>x)).mono sy (fun B z e=>by have:=f8 B z;omega)), .inl (o9.mono sy (fun B z e=>by have:=f9 B z;omega)), .inl (zRo ..)⟩,fun B z=>by
   rcases wO.1 z with h | h | h
   .have:=f8 B h;omega
   .have:=f9 B h;omega
   .exact(zRl.1 h).elim⟩
end Go.Eng.Sh
end
section
namespace Go.Bt
open Go.Nd (Str Kvs lookP putP delP Srt leafOf mayK rising sumL)
open Go.Eng (ltS kV kR fX bH d7)
abbrev Bd:=Option Str
def zIe:Bd->Str->Prop
 | none,_=>True
 | some a,k=>a=k\/ltS a k=true
def zDi:Bd->Str->Prop
 | none,_=>True
 | some a,k=>ltS a k=true
def hiB:Bd->Str->Prop
 | none,_=>True
 | some b,k=>ltS k b=true
theorem zDi.low {b:Bd}{k:Str}(h:zDi b k):zIe b k:=by
 cases b with
 | none=>trivial
 | some a=>exact .inr h
theorem K7 {a b c:Str}(h:a=b\/ltS a b=true)(k:ltS b c=true):ltS a c=true:=by
 rcases h with rfl | h
 .exact k
 .exact kR h k
theorem bG {a b c:Str}(h:ltS a b=true)(k:b=c\/ltS b c=true):ltS a c=true:=by
 rcases k with rfl | k
 .exact h
 .exact kR h k
theorem le_trans {a b c:Str}(h:a=b\/ltS a b=true)(k:b=c\/ltS b c=true):a=c\/ltS a c=true:=by
 rcases k with rfl | k
 .exact h
 .exact .inr (K7 h k)
theorem not_lt {a b:Str}(h: ¬ltS a b=true):b=a\/ltS b a=true:=by
 cases k:ltS b a with
 | true=>exact .inr rfl
 | false=>exact .inl (fX k (by simpa using h))
theorem zOc {b:Bd}{k x:Str}(h:zIe b k)(f:ltS k x=true):zDi b x:=by
 cases b with
 | none=>trivial
 | some a=>exact K7 h f
theorem X1 {b:Bd}{k x:Str}(h:zDi b k)(f:k=x\/ltS k x=true):zDi b x:=by
 cases b with
 | none=>trivial
 | some a=>exact bG h f
theorem zEH {b:Bd}{k x:Str}(h:hiB b k)(f:x=k\/ltS x k=true):hiB b x:=by
 cases b with
 | none=>trivial
 | some a=>exact K7 f h
def Tr:Nat->Type
 | 0=>Kvs
 | h+1=>List Str×List (Tr h)
def con:(h:Nat)->Tr h->Kvs
 | 0,l=>l
 | h+1,t=>t.2.flatMap (con h)
def KB {α:Type}(W:Bd->Bd->α->Prop):Bd->List Str->List α->Bd->Prop
 | lo,[],[t],hi=>W lo hi t
 | lo,k::ks,t::ts,hi=>W lo (some k) t/\KB W (some k) ks ts hi
 | _,_,_,_=>False
def VS (lo:Bd)(ks:List Str):Nat->Bd
 | 0=>lo
 | i+1=>ks[i]?
def YD (ks:List Str)(hi:Bd)(i:Nat):Bd:=match ks[i]? with
 | some k=>some k
 | none=>hi
theorem X2 (lo:Bd)(k:Str)(ks:List Str)(i:Nat):VS lo (k::ks) (i+1)=VS (some k) ks i:=by cases i<;>rfl
theorem XB (hi:Bd)(k:Str)(ks:List Str)(i:Nat):YD (k::ks) hi (i+1)=YD ks hi i:=rfl
theorem KB.len {α:Type}{W:Bd->Bd->α->Prop} : ∀ {ks:List Str} {ts:List α} {lo hi:Bd},KB W lo ks ts hi->ts.length=ks.length+1
 | [],[],_,_,h=>h.elim
 | [],[_],_,_,_=>rfl
 | [],_::_::_,_,_,h=>h.elim
 | _::_,[],_,_,h=>h.elim
 | _::ks,_::ts,_,_,h=>by simp[KB.len h.2]
theorem KB.at {α:Type}{W:Bd->Bd->α->Prop} : ∀ {ks:List Str} {ts:List α} {lo hi:Bd} {i:Nat} {t:α},KB W lo ks ts hi->ts[i]? =some t->W (VS lo ks i) (YD ks hi i) t
 | [],[],_,_,_,_,h,_=>h.elim
 | [],[a],_,_,0,t,h,ht=>by simp at ht;subst ht;exact h
 | [],[a],_,_,i+1,t,h,ht=>by simp at ht
 | [],_::_::_,_,_,_,_,h,_=>h.elim
 | _::_,[],_,_,_,_,h,_=>h.elim
 | k::ks,a::ts,_,_,0,t,h,ht=>by simp at ht;subst ht;exact h.1
 | k::ks,a::ts,_,_,i+1,t,h,ht=>by
  simp only[yV]at ht;rw[X2,XB];exact KB.at h.2 ht
theorem KB.mono {α:Type}{W f:Bd->Bd->α->Prop}(a: ∀lo hi t,W lo hi t->f lo hi t): ∀ {ks:List Str} {ts:List α} {lo hi:Bd},KB W lo ks ts hi->KB f lo ks ts hi
 | [],[],_,_,h=>h.elim
 | [],[_],_,_,h=>a _ _ _ h
 | [],_::_::_,_,_,h=>h.elim
 | _::_,[],_,_,h=>h.elim
 | _::ks,_::ts,_,_,h=>⟨a _ _ _ h.1,KB.mono a h.2⟩
theorem KB.app {α:Type}{W:Bd->Bd->α->Prop}{k:Str}{a:List Str}{f:List α}{hi:Bd}(i:KB W (some k) a f hi): ∀ {ks:List Str} {ts:List α} {lo:Bd},KB W lo ks ts (some k)->KB W lo (ks++(k::a)) (ts++f) hi
 | [],[],_,h=>h.elim
 | [],[_],_,h=>⟨h,i⟩
 | [],_::_::_,_,h=>h.elim
 | _::_,[],_,h=>h.elim
 | _::ks,_::ts,_,h=>⟨h.1,KB.app i h.2⟩
theorem KB.drop {α:Type}{W:Bd->Bd->α->Prop} : ∀ {ks:List Str} {ts:List α} {lo hi:Bd} {m:Nat} {k:Str},KB W lo ks ts hi->ks[m]? =some k->KB W (some k) (ks.drop (m+1)) (ts.drop (m+1)) hi
 | [],_,_,_,_,_,_,hk=>by simp at hk
 | _::_,[],_,_,_,_,h,_=>h.elim
 | a::ks,t::ts,_,_,0,k,h,hk=>by simp at hk;subst hk;exact h.2
 | a::ks,t::ts,_,_,m+1,k,h,hk=>by
  simp only[yV]at hk;have:=KB.drop (m:=m) h.2 hk;exact this
theorem KB.take {α:Type}{W:Bd->Bd->α->Prop} : ∀ {ks:List Str} {ts:List α} {lo hi:Bd} {m:Nat} {k:Str},KB W lo ks ts hi->ks[m]? =some k->KB W lo (ks.take m) (ts.take (m+1)) (some k)
 | [],_,_,_,_,_,_,hk=>by simp at hk
 | _::_,[],_,_,_,_,h,_=>h.elim
 | a::ks,t::ts,_,_,0,k,h,hk=>by simp at hk;subst hk;exact h.1
 | a::ks,t::ts,_,_,m+1,k,h,hk=>by
  simp only[yV]at hk;exact⟨h.1,KB.take h.2 hk⟩
theorem KB.head {α:Type}{W:Bd->Bd->α->Prop}{ks:List Str}{ts:List α}{j hi:Bd}{m:Nat}(h:KB W j ks ts hi)(hm:m<ts.length): ∀ {f:List Str} {i:List α} {lo:Bd},KB W lo f i (YD ks hi m)->KB W lo (f++ks.drop m) (i++ts.drop (m+1)) hi
 | [],[],_,h=>h.elim
 | [],[p],lo,hp=>by
  have hl:=h.len;simp only[YD]at hp
  cases a:ks[m]? with
  | none=>
   rw[a]at hp;have:ks.length<=m:=by simpa using a
   rw[qT this,qT (by omega)];exact hp
  | some k=>
   rw[a]at hp;obtain⟨o,rfl⟩:=qR.1 a;rw[qL o];exact⟨hp,h.drop a⟩
 | [],_::_::_,_,h=>h.elim
 | _::_,[],_,h=>h.elim
 | _::f,_::i,_,hp=>⟨hp.1,KB.head h hm hp.2⟩
theorem KB.splice {α:Type}{W:Bd->Bd->α->Prop}{a:List Str}{f:List α} : ∀ {ks:List Str} {ts:List α} {lo hi:Bd} {i m:Nat},KB W lo ks ts hi->i+m<ts.length->KB W (VS lo ks i) a f (YD ks hi (i+m))->KB W lo (ks.take i++a++ks.drop (i+m)) (ts.take i++f++ts.drop (i+m+1)) hi
 | ks,ts,lo,hi,0,m,h,hm,hp=>by
  simp only[yW,List.take_zero,qS]at hm hp⊢;exact KB.head h hm (lo:=lo) hp
 | [],ts,_,_,i+1,m,h,hm,_=>by have:=h.len;simp only[yJ]at this;omega
 | _::_,[],_,_,_+1,_,h,_,_=>h.elim
 | k::ks,t::ts,lo,hi,i+1,m,h,hm,hp=>by
  have e:i+1+m=i+m+1:=by omega
  rw[e,X2,XB]at hp;rw[e];simp only[zW]at hm;have:=KB.splice (i:=i) (m:=m) h.2 (by omega) hp;simp only[List.take_succ_cons,List.drop_succ_cons,qF];exact⟨h.1,this⟩
def Lf (lo hi:Bd)(l:Kvs):Prop:=Srt l/\ ∀p∈l,zIe lo p.1/\hiB hi p.1/\mayK p.1=true/\p.2.length<=200
def wM (l:Kvs):Nat:=Nd.size (leafOf l)
def wP (ks:List Str)(n:Nat):Nat:=2+16*n+sumL ks
def Inn {α:Type}(W:Bd->Bd->α->Prop)(lo hi:Bd)(t:List Str×List α):Prop:=(∀k∈t.1,mayK k=true/\zDi lo k/\hiB hi k)/\rising ltS t.1=true/\KB W lo t.1 t.2 hi
def wI:(h:Nat)->Tr h->Nat
 | 0,l=>wM l
 | _+1,t=>wP t.1 t.2.length
def WF:(h:Nat)->Bd->Bd->Tr h->Prop
 | 0,lo,hi,l=>Lf lo hi l/\l≠[]/\wM l<=500
 | h+1,lo,hi,t=>Inn (WF h) lo hi t/\t.1≠[]/\160<=wP t.1 t.2.length/\wP t.1 t.2.length<=500
def WR:(h:Nat)->Tr h->Prop
 | 0,l=>Lf none none l/\l≠[]/\wM l<=500
 | h+1,t=>Inn (WF h) none none t/\t.1≠[]/\wP t.1 t.2.length<=500
def WX:(h:Nat)->Bd->Bd->Tr h->Prop
 | 0,lo,hi,l=>Lf lo hi l/\wM l<=785
 | h+1,lo,hi,t=>Inn (WF h) lo hi t/\wP t.1 t.2.length<=785
theorem BP {h:Nat}(a: ∀ {lo hi:Bd} {t:Tr h},WF h lo hi t-> ∀p∈con h t,zIe lo p.1/\hiB hi p.1): ∀ {ks:List Str} {ts:List (Tr h)} {lo hi:Bd},KB (WF h) lo ks ts hi->rising ltS ks=true->(∀k∈ks,zDi lo k/\hiB hi k)-> ∀p∈ts.flatMap (con h),zIe lo p.1/\hiB hi p.1
 | [],[],_,_,h,_,_=>h.elim
 | [],[t],lo,hi,hk,_,_=>fun p hp=>by
  simp only[qG,List.flatMap_nil,qX]at hp;exact a hk p hp
 | [],_::_::_,_,_,h,_,_=>h.elim
 | _::_,[],_,_,h,_,_=>h.elim
 | k::ks,t::ts,lo,hi,hk,hr,hb=>fun p hp=>by
  have f:=hb k (zK ..);rw[Nd.rising_cons]at hr;simp only[qG,qB]at hp;rcases hp with hp | hp
  .have:=a hk.1 p hp;exact⟨this.1,zEH f.2 (.inr this.2)⟩
  .have:=BP a hk.2 hr.2 (fun x i=>⟨hr.1 x i,(hb x (zC _ i)).2⟩) p hp;exact⟨(X1 f.1 this.1).low,this.2⟩
theorem BQ: ∀(h:Nat) {lo hi:Bd} {t:Tr h},WF h lo hi t-> ∀p∈con h t,zIe lo p.1/\hiB hi p.1
 | 0,lo,hi,l,hw,p,hp=>⟨(hw.1.2 p hp).1,(hw.1.2 p hp).2.1⟩
 | h+1,lo,hi,t,hw,p,hp=>BP (BQ h) hw.1.2.2 hw.1.2.1 (fun k a=>(hw.1.1 k a).2) p hp
theorem zHd {a b:Kvs}(i:Srt a)(hb:Srt b)(h: ∀p∈a,∀q∈b,ltS p.1 q.1=true):Srt (a++b):=by
 induction a with
 | nil=>exact hb
 | cons p a ih=>
  obtain⟨k,v⟩:=p;refine⟨fun q f=> ?_,ih i.2 fun p hp=>h p (zC _ hp)⟩;rcases qB.1 f with f | f
  .exact i.1 q f
  .exact h _ (zK ..) q f
theorem zHc {h:Nat}(a: ∀ {lo hi:Bd} {t:Tr h},WF h lo hi t->Srt (con h t)): ∀ {ks:List Str} {ts:List (Tr h)} {lo hi:Bd},KB (WF h) lo ks ts hi->rising ltS ks=true->(∀k∈ks,zDi lo k/\hiB hi k)->Srt (ts.flatMap (con h))
 | [],[],_,_,h,_,_=>h.elim
 | [],[t],lo,hi,hk,_,_=>by
  simp only[qG,List.flatMap_nil,qX];exact a hk
 | [],_::_::_,_,_,h,_,_=>h.elim
 | _::_,[],_,_,h,_,_=>h.elim
 | k::ks,t::ts,lo,hi,hk,hr,hb=>by
  rw[Nd.rising_cons]at hr;have f: ∀x∈ks,zDi (some k) x/\hiB hi x:=fun x i=>⟨hr.1 x i,(hb x (zC _ i)).2⟩
  simp only[qG];refine zHd (a hk.1) (zHc a hk.2 hr.2 f) fun p hp q j=> ?_
  exact bG (BQ h hk.1 p hp).2 (BP (BQ h) hk.2 hr.2 f q j).1
theorem zJE: ∀(h:Nat) {lo hi:Bd} {t:Tr h},WF h lo hi t->Srt (con h t)
 | 0,_,_,_,hw=>hw.1.1
 | h+1,_,_,_,hw=>zHc (zJE h) hw.1.2.2 hw.1.2.1 (fun k a=>(hw.1.1 k a).2)
theorem zOo {h:Nat}{lo hi:Bd}{t:List Str×List (Tr h)}(a:Inn (WF h) lo hi t):Srt (t.2.flatMap (con h)):=
 zHc (zJE h) a.2.2 a.2.1 (fun k f=>(a.1 k f).2)
theorem zMr {h:Nat}{t:Tr h}(a:WR h t):Srt (con h t):=by
 cases h with
 | zero=>exact a.1.1
 | succ h=>exact zOo a.1
theorem zQN {h:Nat}{lo hi:Bd}{t:Tr h}(a:WF h lo hi t): ∀p∈con h t,mayK p.1=true/\p.2.length<=200:=by
 induction h generalizing lo hi with
 | zero=>exact fun p hp=>(a.1.2 p hp).2.2
 | succ h ih=>
  intro p hp;obtain⟨m,f,hp⟩:=List.mem_flatMap.1 hp;obtain⟨i,j,rfl⟩:=List.mem_iff_getElem.1 f;exact ih (KB.at a.1.2.2 (zJ j)) p hp
theorem con_ne {h:Nat}{lo hi:Bd}{t:Tr h}(f:WF h lo hi t):con h t≠[]:=by
 induction h generalizing lo hi with
 | zero=>exact f.2.1
 | succ h ih=>
  obtain⟨ks,ts⟩:=t;have hl:=f.1.2.2.len;simp only at hl;have i:0<ts.length:=by omega
  have:=ih (KB.at f.1.2.2 (zJ i))
  match ts,i with
  | a::ts,_=>
   simp only[con,qG];intro e;exact this (List.append_eq_nil_iff.1 e).1
theorem zNX {k v:Str}{A C B:Kvs}(f: ∀p∈A,ltS p.1 k=true)(i: ∀p∈B,ltS k p.1=true):putP k v (A++C++B)=A++putP k v C++B:=by
 induction A with
 | nil=>
  simp only[qS]
  induction C with
  | nil=>
   cases B with
   | nil=>rfl
   | cons b B=>
    obtain⟨b,w⟩:=b;have h:=i (b,w) (zK ..);simp only[qS,putP,qF];rw[if_neg (fun e=>d7 h e.symm),if_neg (by rw[bH h];simp)]
  | cons c C ih=>
   obtain⟨c,w⟩:=c;simp only[qF,putP];split
   .rfl
   .split
    .rw[ih];rfl
    .rfl
 | cons a A ih=>
  obtain⟨a,w⟩:=a;have h:=f (a,w) (zK ..);simp only[qF,putP];rw[if_neg (d7 h),if_pos h,ih (fun p hp=>f p (zC _ hp))]
theorem zEA {k:Str}{A B:Kvs} :lookP k (A++B)=match lookP k A with | some v=>some v | none=>lookP k B:=by
 induction A with
 | nil=>rfl
 | cons a A ih=>
  obtain⟨a,w⟩:=a;simp only[qF,lookP];split
  .rfl
  .exact ih
theorem zLe {k:Str}{A C B:Kvs}(a: ∀p∈A,ltS p.1 k=true)(f: ∀p∈B,ltS k p.1=true):lookP k (A++C++B)=lookP k C:=by
 rw[zEA,zEA,Nd.look_none (l:=A) (fun p hp=>d7 (a p hp)),Nd.look_none (l:=B) (fun p hp e=>d7 (f p hp) e.symm)]
 cases lookP k C<;>rfl
theorem del_none {k:Str}{l:Kvs}(h: ∀p∈l,p.1≠k):delP k l=l:=by
 induction l with
 | nil=>rfl
 | cons a l ih=>
  obtain⟨a,w⟩:=a;rw[delP,if_neg (h (a,w) (zK ..)),ih fun p hp=>h p (zC _ hp)]
theorem zJv {k:Str}{A C B:Kvs}(f: ∀p∈A,ltS p.1 k=true)(i: ∀p∈B,ltS k p.1=true):delP k (A++C++B)=A++delP k C++B:=by
 induction A with
 | nil=>
  simp only[qS]
  induction C with
  | nil=>exact del_none fun p hp e=>d7 (i p hp) e.symm
  | cons c C ih=>
   obtain⟨c,w⟩:=c;simp only[qF,delP];split
   .rfl
   .rw[ih];rfl
 | cons a A ih=>
  obtain⟨a,w⟩:=a;have h:=f (a,w) (zK ..);simp only[qF,delP];rw[if_neg (d7 h),ih (fun p hp=>f p (zC _ hp))]
def kB (ks:List Str)(key:Str):Nat:=(ks.filter fun k=>ltS k key||decide (k=key)).length
theorem fD (ks:List Str)(key:Str):kB ks key<=ks.length:=List.length_filter_le _ _
theorem KU {a key:Str}{ks:List Str}(h:rising ltS (a::ks)=true):kB (a::ks) key=if ltS key a=true then 0 else kB ks key+1:=by
 rw[Nd.rising_cons]at h;by_cases f:ltS key a=true
 .rw[if_pos f,kB,List.length_eq_zero_iff,List.filter_eq_nil_iff];intro x m i;have j:ltS key x=true:=by
   rcases zP.1 m with rfl | m
   .exact f
   .exact kR f (h.1 x m)
  simp only[yO,zR]at i;rcases i with i | rfl
  .rw[bH i]at j;cases j
  .rw[kV]at j;cases j
 .rw[if_neg f,kB,List.filter_cons];have:(ltS a key||decide (a=key))=true:=by
   simp only[yO,zR];rcases not_lt f with e | e
   .exact .inr e
   .exact .inl e
  rw[this];rfl
theorem zA5 {key:Str} : ∀ {ks:List Str} {lo:Bd},rising ltS ks=true->zIe lo key->zIe (VS lo ks (kB ks key)) key
 | [],_,_,h=>h
 | a::ks,lo,hr,h=>by
  rw[KU hr];by_cases f:ltS key a=true
  .rw[if_pos f];exact h
  .rw[if_neg f,X2];rw[Nd.rising_cons]at hr;exact zA5 hr.2 (not_lt f)
theorem zA6 {key:Str} : ∀ {ks:List Str} {hi:Bd},rising ltS ks=true->hiB hi key->hiB (YD ks hi (kB ks key)) key
 | [],_,_,h=>h
 | a::ks,hi,hr,h=>by
  rw[KU hr];by_cases f:ltS key a=true
  .rw[if_pos f];exact f
  .rw[if_neg f,XB];rw[Nd.rising_cons]at hr;exact zA6 hr.2 h
theorem KT {h:Nat}{lo hi:Bd}{key:Str}{ks:List Str}{ts:List (Tr h)}(q:Inn (WF h) lo hi (ks,ts)):
  (∀p∈(ts.take (kB ks key)).flatMap (con h),ltS p.1 key=true)/\ ∀p∈(ts.drop (kB ks key+1)).flatMap (con h),ltS key p.1=true:=by
 obtain⟨s,f,o⟩:=q;simp only at s f o;have u:=fD ks key;have z:=o.len;constructor
 .have hl:=zA5 (lo:=none) f (key:=key) trivial
  cases q:kB ks key with
  | zero=>intro p hp;simp at hp
  | succ w=>
   rw[q]at hl u;have m:w<ks.length:=by omega
   simp only[VS,zJ m]at hl;have i:=o.take (zJ m);have hr:rising ltS (ks.take w)=true:=Nd.rising_take f w;intro p hp;have hm: ∀x∈ks.take w,ltS x ks[w]=true:=fun x a=>by
    obtain⟨j,y,rfl⟩:=List.mem_iff_getElem.1 a;simp only[qA]at y;rw[List.getElem_take];have hd:=Nd.rising_drop f j;rw[qL (by omega),Nd.rising_cons]at hd;refine hd.1 _ ?_;rw[List.mem_iff_getElem];exact⟨w - (j+1),by simp;omega,by rw[List.getElem_drop];congr 1;omega⟩
   have:=BP (BQ h) i hr (fun x a=>⟨(s x (List.mem_of_mem_take a)).2.1,hm x a⟩) p hp;exact bG this.2 hl
 .have t:=zA6 (hi:=none) f (key:=key) trivial;intro p hp
  cases i:ks[kB ks key]? with
  | none=>
   have:ks.length<=kB ks key:=by simpa using i
   rw[qT (by omega)]at hp;simp at hp
  | some k=>
   simp only[YD,i]at t;obtain⟨m,rfl⟩:=qR.1 i;have v:=o.drop i;have hd:=Nd.rising_drop f (kB ks key);rw[qL m,Nd.rising_cons]at hd;have:=BP (BQ h) v hd.2 (fun x a=>⟨hd.1 x a,(s x (List.mem_of_mem_drop a)).2.2⟩) p hp;exact bG t this.1
theorem zEf {α:Type}{ts:List α}{i:Nat}{t:α}(h:ts[i]? =some t):ts=ts.take i++[t]++ts.drop (i+1):=by
 obtain⟨hi,rfl⟩:=qR.1 h;rw[qI,List.singleton_append,<-qL hi,qM]
theorem uW {a b:List Str} :rising ltS (a++b)=true↔rising ltS a=true/\rising ltS b=true/\ ∀x∈a,∀y∈b,ltS x y=true:=by
 induction a with
 | nil=>simp[rising]
 | cons c a ih=>
  rw[qF,Nd.rising_cons,Nd.rising_cons,ih];simp only[qB,zP];constructor
  .rintro⟨h1,h2,h3,h4⟩
   refine⟨⟨fun x f=>h1 x (.inl f),h2⟩,h3,fun x f y h=> ?_⟩;rcases f with rfl | f
   .exact h1 y (.inr h)
   .exact h4 x f y h
  .rintro⟨⟨h1,h2⟩,h3,h4⟩
   exact⟨fun x f=>f.elim (h1 x) (h4 c (.inl rfl) x),h2,h3,fun x f y h=>h4 x (.inr f) y h⟩
theorem Inn.splice {α:Type}{W:Bd->Bd->α->Prop}{lo hi:Bd}{ks F:List Str}{ts L:List α}{i m:Nat}(h:Inn W lo hi (ks,ts))(hm:i+m<ts.length)(hp:Inn W (VS lo ks i) (YD ks hi (i+m)) (F,L)):
  Inn W lo hi (ks.take i++F++ks.drop (i+m),ts.take i++L++ts.drop (i+m+1)):=by
 obtain⟨C,u,J⟩:=h;obtain⟨v,N,O⟩:=hp;simp only at C u J v N O;have Z:=J.len;have S: ∀x∈ks.take i,∀y∈F,ltS x y=true:=fun x a y K=>by
  have t:=(v y K).2.1
  cases i with
  | zero=>simp at a
  | succ j=>
   have f:j<ks.length:=by omega
   simp only[VS,zJ f]at t;rw[qJ f,qB,y6]at a;rcases a with a | rfl
   .have:=Nd.rising_take u (j+1);rw[qJ f,uW]at this;exact kR (this.2.2 x a _ (List.mem_singleton_self _)) t
   .exact t
 have T: ∀y∈F,∀z∈ks.drop (i+m),ltS y z=true:=fun y K z o=>by
  have t:=(v y K).2.2;by_cases f:i+m<ks.length
  .simp only[YD,zJ f]at t;have hd:=Nd.rising_drop u (i+m);rw[qL f]at o hd;rw[Nd.rising_cons]at hd;rcases zP.1 o with rfl | o
   .exact t
   .exact kR t (hd.1 z o)
  .rw[qT (by omega)]at o;simp at o
 have U: ∀x∈ks.take i,∀z∈ks.drop (i+m),ltS x z=true:=fun x a z o=>by
  have:ks=ks.take (i+m)++ks.drop (i+m):=(qM _ _).symm;rw[this,uW]at u;refine u.2.2 x ?_ z o;have:ks.take i=(ks.take (i+m)).take i:=by rw[List.take_take,Nat.min_eq_left (by omega)]
  rw[this]at a;exact List.mem_of_mem_take a
 have V: ∀s,zDi (VS lo ks i) s->zDi lo s:=fun s q=>by
  cases i with
  | zero=>exact q
  | succ j=>
   have f:j<ks.length:=by omega
   simp only[VS,zJ f]at q;exact X1 (C _ (qY f)).2.1 (.inr q)
 have Y: ∀s,hiB (YD ks hi (i+m)) s->hiB hi s:=fun s q=>by
  by_cases f:i+m<ks.length
  .simp only[YD,zJ f]at q;exact zEH (C _ (qY f)).2.2 (.inr q)
  .simp only[YD,List.getElem?_eq_none (show ks.length<=i+m by omega)]at q;exact q
 refine⟨fun k p=> ?_, ?_,KB.splice J hm O⟩
 .simp only[qB]at p;rcases p with(p | p) | p
  .exact C k (List.mem_of_mem_take p)
  .exact⟨(v k p).1,V k (v k p).2.1,Y k (v k p).2.2⟩
  .exact C k (List.mem_of_mem_drop p)
 .rw[uW,uW];refine⟨⟨Nd.rising_take u i,N,S⟩,Nd.rising_drop u _,fun x a z o=> ?_⟩;rcases qB.1 a with a | a
  .exact U x a z o
  .exact T x a z o
def Gen:(h:Nat)->Bd->Bd->Tr h->Prop
 | 0,lo,hi,l=>Lf lo hi l
 | h+1,lo,hi,t=>Inn (WF h) lo hi t
def Full:(h:Nat)->Tr h->Prop
 | 0,l=>l≠[]
 | _+1,t=>160<=wP t.1 t.2.length
theorem WF.gen: ∀ {h:Nat} {lo hi:Bd} {t:Tr h},WF h lo hi t->Gen h lo hi t
 | 0,_,_,_,w=>w.1
 | _+1,_,_,_,w=>w.1
theorem WX.gen: ∀ {h:Nat} {lo hi:Bd} {t:Tr h},WX h lo hi t->Gen h lo hi t
 | 0,_,_,_,w=>w.1
 | _+1,_,_,_,w=>w.1
theorem WF.full: ∀ {h:Nat} {lo hi:Bd} {t:Tr h},WF h lo hi t->Full h t
 | 0,_,_,_,w=>w.2.1
 | _+1,_,_,_,w=>w.2.2.1
theorem WF.sz: ∀ {h:Nat} {lo hi:Bd} {t:Tr h},WF h lo hi t->wI h t<=500
 | 0,_,_,_,w=>w.2.2
 | _+1,_,_,_,w=>w.2.2.2
theorem WX.sz: ∀ {h:Nat} {lo hi:Bd} {t:Tr h},WX h lo hi t->wI h t<=785
 | 0,_,_,_,w=>w.2
 | _+1,_,_,_,w=>w.2
theorem Gen.wx: ∀ {h:Nat} {lo hi:Bd} {t:Tr h},Gen h lo hi t->wI h t<=785->WX h lo hi t
 | 0,_,_,_,w,s=>⟨w,s⟩
 | _+1,_,_,_,w,s=>⟨w,s⟩
theorem Gen.wf: ∀ {h:Nat} {lo hi:Bd} {t:Tr h},Gen h lo hi t->Full h t->wI h t<=500->WF h lo hi t
 | 0,_,_,_,w,f,s=>⟨w,f,s⟩
 | h+1,_,_,t,w,f,s=>⟨w,fun e=>by
  have hl:=w.2.2.len;have a:160<=wP t.1 t.2.length:=f;rw[hl,e]at a;simp[wP,sumL]at a,f,s⟩
def QN:(h:Nat)->Tr h->Str->Tr h->Tr h
 | 0,a,_,b=>List.append a b
 | _+1,a,s,b=>(a.1++([s]++b.1),a.2++b.2)
theorem zFh: ∀(h:Nat) (a:Tr h) (s:Str) (b:Tr h),con h (QN h a s b)=con h a++con h b
 | 0,_,_,_=>rfl
 | h+1,a,s,b=>by simp[con,QN]
theorem X0 (a b:Kvs):wM (a++b)+2=wM a+wM b:=by
 simp only[wM,leafOf,Nd.size,List.map_append,Nd.sumL_append,yJ];omega
theorem sumL_nil:sumL []=0:=rfl
theorem X9 (h:Nat)(a:Tr h)(s:Str)(b:Tr h)(f:s.length<=40):wI h (QN h a s b)<=wI h a+wI h b+39/\wI h b<=wI h (QN h a s b)/\wI h a<=wI h (QN h a s b):=by
 cases h with
 | zero=>
  have key: ∀a b:Kvs,wM (a++b)<=wM a+wM b+39/\wM b<=wM (a++b)/\wM a<=wM (a++b):=fun a b=>by
   have:=X0 a b;have i:2<=wM a:=by simp only[wM,Nd.size];omega
   have j:2<=wM b:=by simp only[wM,Nd.size];omega
   omega
  exact key a b
 | succ h=>
  simp only[wI,QN,wP,zT,Nd.sumL_append,Nd.sumL_cons,sumL_nil];omega
theorem zEF {h:Nat}{lo hi:Bd}{s:Str}{a b:Tr h}(u:Gen h lo (some s) a)(hb:Gen h (some s) hi b)(m:mayK s=true/\zDi lo s/\hiB hi s):Gen h lo hi (QN h a s b):=by
 cases h with
 | zero=>
  obtain⟨i,j⟩:=u;obtain⟨b1,b2⟩:=hb;refine⟨zHd i b1 fun p hp q v=>bG (j p hp).2.1 (b2 q v).1,fun p hp=> ?_⟩;rcases qB.1 hp with hp | hp
  .exact⟨(j p hp).1,zEH m.2.2 (.inr (j p hp).2.1),(j p hp).2.2⟩
  .exact⟨(X1 m.2.1 (b2 p hp).1).low,(b2 p hp).2.1,(b2 p hp).2.2⟩
 | succ h=>
  obtain⟨i,j,z⟩:=u;obtain⟨b1,b2,C⟩:=hb;refine⟨fun k f=> ?_, ?_,KB.app C z⟩
  .simp only[QN,qB,y6]at f;rcases f with f | rfl | f
   .exact⟨(i k f).1,(i k f).2.1,zEH m.2.2 (.inr (i k f).2.2)⟩
   .exact m
   .exact⟨(b1 k f).1,X1 m.2.1 (.inr (b1 k f).2.1),(b1 k f).2.2⟩
  .simp only[QN];rw[uW,List.singleton_append,Nd.rising_cons];refine⟨j,⟨fun x o=>(b1 x o).2.1,b2⟩,fun x o y t=> ?_⟩;rcases zP.1 t with rfl | t
   .exact(i x o).2.2
   .exact kR (i x o).2.2 (b1 y t).2.1
theorem ZL {a b:Kvs} :Srt (a++b)↔Srt a/\Srt b/\ ∀p∈a,∀q∈b,ltS p.1 q.1=true:=by
 induction a with
 | nil=>simp[Srt]
 | cons c a ih=>
  obtain⟨c,w⟩:=c;rw[qF,Srt,Srt,ih];simp only[qB,zP];constructor
  .rintro⟨h1,h2,h3,h4⟩
   refine⟨⟨fun x f=>h1 x (.inl f),h2⟩,h3,fun x f y h=> ?_⟩;rcases f with rfl | f
   .exact h1 y (.inr h)
   .exact h4 x f y h
  .rintro⟨⟨h1,h2⟩,h3,h4⟩
   exact⟨fun x f=>f.elim (h1 x) (h4 _ (.inl rfl) x),h2,h3,fun x f y h=>h4 x (.inr f) y h⟩
def psz:(h:Nat)->Tr h->Nat->Nat
 | 0,l,k=>wM (List.take (α:=Str×Str) k l)
 | _+1,t,k=>wP (t.1.take k) (k+1)
def VW:(h:Nat)->Tr h->Nat
 | 0,l=>List.length (α:=Str×Str) l
 | _+1,t=>t.1.length
def zR4 (h:Nat)(t:Tr h)(k:Nat):Prop:=
 1<=k/\k+min (h+1) 2<=VW h t/\(k=1\/psz h t k<=(wI h t - 2) / 2+2)/\(k+min (h+1) 2=VW h t\/(wI h t - 2) / 2+2<psz h t (k+1))
def zPH:(h:Nat)->Tr h->Tr h->Str->Tr h->Prop
 | 0,l,a,s,b=> ∃k,zR4 0 l k/\a=List.take (α:=Str×Str) k l/\s=(List.map Prod.fst (l:Kvs)).getD k []/\b=List.drop (α:=Str×Str) k l
 | h+1,t,a,s,b=> ∃k,zR4 (h+1) t k/\a=(t.1.take k,t.2.take (k+1))/\s=t.1.getD k []/\b=(t.1.drop (k+1),t.2.drop (k+1))
theorem xO (p:Str×Str)(l:Kvs):wM (p::l)=wM l+(2+p.1.length+p.2.length):=by
 simp only[wM,leafOf,Nd.size,yH,Nd.sumL_cons,yJ];omega
theorem cE:wM []=2:=rfl
theorem zDI {p:Str×Str}(h:mayK p.1=true/\p.2.length<=200):2+p.1.length+p.2.length<=242:=by
 obtain⟨a,f⟩:=h;simp only[mayK,zE,zR]at a;omega
theorem zLL {lo hi:Bd}{l a b:Kvs}{s:Str}(J:Lf lo hi l)(O:wM l<=785)(hb:500<wM l)(K:zPH 0 l a s b):
  Lf lo (some s) a/\Lf (some s) hi b/\(mayK s=true/\zDi lo s/\hiB hi s)/\a++b=l/\a≠[]/\b≠[]/\wM a<=500/\wM b<=wM l - (wM l - 2) / 2+241:=by
 obtain⟨k,⟨S,x,m,h⟩,rfl,rfl,rfl⟩:=K;simp only[VW,psz,wI,yW,show min 1 2=1 from rfl]at x m h;have i:k<l.length:=x;have o:l.take k++l.drop k=l:=qM _ _;obtain⟨L,f⟩:=J;have u:=L;rw[<-o,ZL]at u;obtain⟨N,q,v⟩:=u;have hd:l.drop k=l[k]::l.drop (k+1):=qL i;have C:(l.map Prod.fst).getD k []=(l[k]).1:=by
  rw[qE,jJ,zJ i];rfl
 rw[C];have hm:l[k]∈l:=qY i;have t:0<l.length:=by omega
 have j:l[0]∈l.take k:=by rw[List.mem_iff_getElem];exact⟨0,by simp;omega,by simp⟩
 have y:ltS (l[0]).1 (l[k]).1=true:=v _ j _ (by rw[hd];exact zK ..);have z:=X0 (l.take k) (l.drop k);rw[o]at z;have T:=zDI (f _ hm).2.2;have F:wM (l.take (k+1))=wM (l.take k)+(2+(l[k]).1.length+(l[k]).2.length):=by
  rw[qJ i];have:=X0 (l.take k) [l[k]];rw[xO,cE]at this;omega
 refine⟨⟨N,fun p hp=> ?_⟩,⟨q,fun p hp=> ?_⟩,⟨(f _ hm).2.2.1,zOc (f _ (qY t)).1 y,(f _ hm).2.1⟩,o, ?_, ?_, ?_, ?_⟩
 .exact⟨(f p (List.mem_of_mem_take hp)).1,v p hp _ (by rw[hd];exact zK ..),(f p (List.mem_of_mem_take hp)).2.2⟩
 .refine⟨?_,(f p (List.mem_of_mem_drop hp)).2⟩;rw[hd]at hp q;rcases zP.1 hp with rfl | hp
  .exact .inl rfl
  .exact .inr (q.1 p hp)
 .intro e;rw[e]at j;simp at j
 .rw[hd];exact List.cons_ne_nil _ _
 .rcases m with rfl | m
  .have U:wM (l.take 1)<=244:=by
    have:=zDI (f _ (qY t)).2.2
    match l,t with
    | p::l,_=>simp only[List.take_succ_cons,List.take_zero,xO,cE];simp only[List.getElem_cons_zero]at this;omega
   omega
  .omega
 .rcases h with h | h
  .have:l.drop (k+1)=[]:=qT (by omega);rw[hd,this,xO,cE];omega
  .rw[F]at h;omega
theorem zBi (ks:List Str){k:Nat}(h:k<ks.length):sumL (ks.take (k+1))=sumL (ks.take k)+(1+(ks[k]).length):=by
 rw[qJ h,Nd.sumL_append,Nd.sumL_cons,sumL_nil];omega
theorem UQ {s:Str}(h:mayK s=true):s.length<=40:=by
 simp only[mayK,zE,zR]at h;omega
theorem zJA {h:Nat}{lo hi:Bd}{t a b:Tr (h+1)}{s:Str}(S:Inn (WF h) lo hi t)(u:wP t.1 t.2.length<=785)(hb:500<wP t.1 t.2.length)(T:zPH (h+1) t a s b):
  Inn (WF h) lo (some s) a/\Inn (WF h) (some s) hi b/\(mayK s=true/\zDi lo s/\hiB hi s)/\con (h+1) a++con (h+1) b=con (h+1) t/\160<=wP a.1 a.2.length/\160<=wP b.1 b.2.length/\wP a.1 a.2.length<=500/\wP b.1 b.2.length<=500/\wP b.1 b.2.length<=wP t.1 t.2.length - (wP t.1 t.2.length - 2) / 2+57:=by
 obtain⟨k,⟨k1,U,j,f⟩,rfl,rfl,rfl⟩:=T;obtain⟨ks,ts⟩:=t;obtain⟨i,z,p⟩:=S;have K:min (h+1+1) 2=2:=by omega
 simp only[VW,psz,wI,K]at U j f i z p u hb⊢;have o:k<ks.length:=by omega
 have J:=p.len;have L:ks.getD k []=ks[k]:=by rw[qE,zJ o];rfl
 rw[L];have C:=zJ o;have hm:ks[k]∈ks:=qY o;have F:ks.take k++ks[k]::ks.drop (k+1)=ks:=by rw[<-qL o,qM]
 have hr:=z;rw[<-F,uW,Nd.rising_cons]at hr;obtain⟨V,⟨W,N⟩,O⟩:=hr;have a0:sumL ks=sumL (ks.take k)+(1+(ks[k]).length+sumL (ks.drop (k+1))):=by
  conv=>lhs;rw[<-F]
  rw[Nd.sumL_append,Nd.sumL_cons]
 have ek:=UQ (i _ hm).1;have Y:=zBi ks o;have l1:(ts.take (k+1)).length=k+1:=by rw[qA];omega
 have Z:(ts.drop (k+1)).length=ks.length - k:=by rw[qK];omega
 rw[l1,Z];have y:k+1<ks.length:=by omega
 have a1:=UQ (i _ (qY y)).1;have a2:sumL (ks.drop (k+1))=1+(ks[k+1]).length+sumL (ks.drop (k+2)):=by rw[qL y,Nd.sumL_cons]
 have v:k=1->sumL (ks.take k)<=41:=fun e=>by
  subst e;have:=zBi ks (k:=0) (by omega);have e0:=UQ (i _ (qY (show 0<ks.length by omega))).1;rw[this];simp only[List.take_zero,sumL_nil];omega
 have q:k+2=ks.length->sumL (ks.drop (k+2))=0:=fun e=>by rw[e,List.drop_length];rfl
 simp only[wP]at j f u hb⊢;rw[Y]at f;rw[J]at u hb j f;refine⟨⟨fun x m=>⟨(i x (List.mem_of_mem_take m)).1,(i x (List.mem_of_mem_take m)).2.1,O x m _ (zK ..)⟩,V,p.take C⟩,⟨fun x m=>⟨(i x (List.mem_of_mem_drop m)).1,W x m,(i x (List.mem_of_mem_drop m)).2.2⟩,N,p.drop C⟩,i _ hm, ?_, ?_, ?_, ?_, ?_, ?_⟩
 .simp only[con,<-yZ,qM]
 .rcases f with f | f
  .have:=q f;omega
  .omega
 .rcases j with rfl | j
  .have:=v rfl;omega
  .omega
 .rcases j with rfl | j
  .have:=v rfl;omega
  .omega
 .rcases f with f | f
  .have:=q f;omega
  .omega
 .rcases f with f | f
  .have:=q f;omega
  .omega
inductive Cuts (h:Nat):Tr h->List (Tr h)->List Str->Prop
 | one {t:Tr h} :wI h t<=500->Cuts h t [t] []
 | more {t a b:Tr h} {s:Str} {ps:List (Tr h)} {ss:List Str} :500<wI h t->zPH h t a s b->Cuts h b ps ss->Cuts h t (a::ps) (s::ss)
theorem zJB {h:Nat}{lo hi:Bd}{t a b:Tr h}{s:Str}(f:WX h lo hi t)(hb:500<wI h t)(p:zPH h t a s b):
  WF h lo (some s) a/\WX h (some s) hi b/\Full h b/\(mayK s=true/\zDi lo s/\hiB hi s)/\con h a++con h b=con h t/\wI h b<=wI h t - (wI h t - 2) / 2+241:=by
 cases h with
 | zero=>
  obtain⟨i,b1,j,e,m,nb,o,q⟩:=zLL f.1 f.2 hb p;have u:=f.2;simp only[wI]at hb⊢;exact⟨⟨i,m,o⟩,⟨b1,by omega⟩,nb,j,e,q⟩
 | succ h=>
  obtain⟨i,b1,j,e,m,nb,o,_,q⟩:=zJA f.1 f.2 hb p;have u:=f.2;simp only[wI]at hb⊢;exact⟨Gen.wf (h:=h+1) i m o,⟨b1,by omega⟩,nb,j,e,by omega⟩
theorem zAQ {h:Nat}{t:Tr h}{f:List (Tr h)}{q:List Str}(u:Cuts h t f q): ∀ {lo hi:Bd},WX h lo hi t->(Full h t\/500<wI h t)->
  Inn (WF h) lo hi (q,f)/\f.flatMap (con h)=con h t/\f.length<=6/\(wI h t<=635->f.length<=5)/\(wI h t<=560->f.length<=4)/\(wI h t<=522->f.length<=3)/\(wI h t<=503->f.length<=2)/\(wI h t<=500->f.length<=1):=by
 induction u with
 | one m=>
  intro lo hi o p;rcases p with p | p
  .refine⟨⟨by simp,rfl,o.gen.wf p m⟩,by simp,by simp, ?_⟩;simp
  .omega
 | @more t a b s f q hb u _ ih=>
  intro lo hi o _;obtain⟨C,F,J,m,e,z⟩:=zJB o hb u;obtain⟨⟨i,v,y⟩,K,N⟩:=ih F (.inl J);have O:=o.sz;simp only at i v y;refine⟨⟨fun k j=> ?_, ?_,C,y⟩, ?_, ?_⟩
  .rcases zP.1 j with rfl | j
   .exact m
   .exact⟨(i k j).1,X1 m.2.1 (.inr (i k j).2.1),(i k j).2.2⟩
  .rw[Nd.rising_cons];exact⟨fun x L=>(i x L).2.1,v⟩
  .rw[qG,K,e]
  .simp only[zW];omega
theorem YJ {ks:List Str}(h: ∀k∈ks,mayK k=true):sumL ks<=41*ks.length:=by
 induction ks with
 | nil=>simp[sumL]
 | cons k ks ih=>
  have:=UQ (h k (zK ..));have:=ih fun x a=>h x (zC _ a)
  rw[Nd.sumL_cons,zW];omega
theorem zL3 {h:Nat}{lo hi:Bd}{ks a:List Str}{ts f:List (Tr h)}{i m:Nat}{x:Tr h}(j:Inn (WF h) lo hi (ks,ts))(hm:i+m<ts.length)(o:WX h (VS lo ks i) (YD ks hi (i+m)) x)(p:Full h x)(q:Cuts h x f a):
  Inn (WF h) lo hi (ks.take i++a++ks.drop (i+m),ts.take i++f++ts.drop (i+m+1))/\
  con (h+1) (ks.take i++a++ks.drop (i+m),ts.take i++f++ts.drop (i+m+1))=(ts.take i).flatMap (con h)++con h x++(ts.drop (i+m+1)).flatMap (con h)/\
  wP (ks.take i++a++ks.drop (i+m)) (ts.take i++f++ts.drop (i+m+1)).length<=wP ks ts.length+285/\ks.length<=(ks.take i++a++ks.drop (i+m)).length+m:=by
 obtain⟨c1,c2,c3,_⟩:=zAQ q o (.inl p);have l1:=j.2.2.len;have s:=c1.2.2.len;simp only at l1 s;refine⟨j.splice hm c1, ?_, ?_, ?_⟩
 .simp only[con,yZ,c2]
 .have t:=YJ fun k u=>(c1.1 k u).1
  simp only at t;have e:sumL (ks.take i)+sumL (ks.drop (i+m))<=sumL ks:=by
   have v:sumL ks=sumL (ks.take i)+sumL (ks.drop i):=by rw[<-Nd.sumL_append,qM]
   have y:sumL (ks.drop i)=sumL ((ks.drop i).take m)+sumL (ks.drop (i+m)):=by rw[<-List.drop_drop,<-Nd.sumL_append,qM]
   omega
  simp only[wP,zT,qA,qK,Nd.sumL_append];omega
 .simp only[zT,qA,qK];omega
theorem zC5 {h:Nat}{a b:Tr h}{s:Str}(i:s.length<=40)(f:Full h a\/Full h b):Full h (QN h a s b):=by
 cases h with
 | zero=>
  intro e;have e:List.append (α:=Str×Str) a b=[]:=e;rcases f with f | f
  .exact f (List.append_eq_nil_iff.1 e).1
  .exact f (List.append_eq_nil_iff.1 e).2
 | succ h=>
  have:=X9 (h+1) a s b i;simp only[wI]at this;show 160<=wP _ _;rcases f with f | f
  .have f:160<=wP a.1 a.2.length:=f;omega
  .have f:160<=wP b.1 b.2.length:=f;omega
theorem WY {h:Nat}{lo hi:Bd}{t:Tr (h+1)}(a:WF (h+1) lo hi t):3<=t.1.length:=by
 obtain⟨⟨f,_,i⟩,_,j,_⟩:=a;have hl:=i.len;have:=YJ fun k m=>(f k m).1
 simp only[wP]at j;omega
theorem zLg {lo hi:Bd}{l:Kvs}{k v:Str}(f:Lf lo hi l)(hl:zIe lo k)(j:hiB hi k)(h:mayK k=true)(i:v.length<=200):Lf lo hi (putP k v l)/\wM (putP k v l)<=wM l+242:=by
 refine⟨⟨Nd.srt_put _ _ f.1,fun p hp=> ?_⟩, ?_⟩
 .rcases Nd.mem_put hp with rfl | hp
  .exact⟨hl,j,h,i⟩
  .exact f.2 p hp
 .have m:=zDI (p:=(k,v)) ⟨h,i⟩;simp only at m;clear f
  induction l with
  | nil=>simp only[putP,xO,cE];omega
  | cons a l ih=>
   obtain⟨a,b⟩:=a;simp only[putP];split
   .simp only[xO];omega
   .split
    .simp only[xO];omega
    .simp only[xO];omega
theorem zLh {lo hi:Bd}{l:Kvs}(k:Str)(f:Lf lo hi l):Lf lo hi (delP k l)/\wM (delP k l)<=wM l:=by
 refine⟨⟨Nd.srt_del _ f.1,fun p hp=>f.2 p (Nd.mem_del hp)⟩, ?_⟩;clear f
 induction l with
 | nil=>exact zQ _
 | cons a l ih=>
  obtain⟨a,b⟩:=a;simp only[delP];split
  .simp only[xO];omega
  .simp only[xO];omega
end Go.Bt
end
section
namespace Go.Ex
open Go.Nd (Str)
def over (b:Str)(f:Nat)(s:Str):Str:=b.take f++s++b.drop (f+s.length)
end Go.Ex
namespace Go.Bk
open Go.Nd (Str be)
def zPU (u:Nat):Str->Nat
 | []=>u
 | b::l=>zPU (Nat.xor u b.toNat*1099511628211 % 18446744073709551616) l
theorem zAc: ∀(s:Str) (u:Nat),u<18446744073709551616->zPU u s<18446744073709551616
 | [],_,h=>h
 | _::l,_,_=>zAc l _ (Nat.mod_lt _ (by omega))
theorem zBk: ∀(s:Str) (b:UInt8) (u:Nat),zPU u (s++[b])=Nat.xor (zPU u s) b.toNat*1099511628211 % 18446744073709551616
 | [],_,_=>rfl
 | _::l,b,_=>zBk l b _
def U7 (s:Str):Nat:=zPU 14695981039346656037 s
theorem zNw (s:Str):U7 s<18446744073709551616:=zAc _ _ (by omega)
def u4:Str:=[106,116,116,121]
def zAA (kind:UInt8)(birth:Nat)(n:Nat):Str:=u4++([kind,0]++(be 2 n++be 4 birth))
def sealB (kind:UInt8)(birth:Nat)(body:Str):Str:=zAA kind birth body.length++(body++List.replicate (500 - body.length) 0)
theorem XC (kind:UInt8)(birth n:Nat):(zAA kind birth n).length=12:=by simp[zAA,u4,Nd.be_length]
theorem sealB_len {kind:UInt8}{birth:Nat}{body:Str}(h:body.length<=500):(sealB kind birth body).length=512:=by
 simp[sealB,XC];omega
end Go.Bk
namespace Go.Eng
open Go.Nd (Str)
theorem zE9: ∀(n:Nat) (l:List AV),n<=l.length->takeN n l=some (l.take n)
 | 0,_,_=>rfl
 | n+1,[],h=>by simp at h
 | n+1,a::l,h=>by
  have f:=zE9 n l (by simpa using h);simp only[takeN,f,List.take_succ_cons]
theorem zQM {H:AH}{A off m cc e:Nat}{g:Bool}{b s:Str}(h:H.h.get A=some (.cells (jN b) e 1 g))(a:H.ok)(hm:off+m<=b.length):
  ∃H',cpy 1 (.slice A off m cc) (S s) H=some (.int .i64 ((min s.length m:Nat):Int),H')/\H'.h.get A=some (.cells (jN (Ex.over b off (s.take (min s.length m)))) e 1 g)/\Stp (fun B=>B=A) H H':=by
 obtain⟨n,j⟩: ∃n,n=min s.length m:=⟨_,rfl⟩;rw[<-j];have p:n<=s.length:=by omega
 have o:Nat.min s.length m=n:=j.symm;have t:takeN (n*1) (jN s)=some (jN (s.take n)):=by
  rw[Nat.mul_one,zE9 _ _ (by rw[jS];exact p),jN,jN,List.map_take]
 have u:jP (jN (s.take n))=true:=by
  rw[kY];intro x v;obtain⟨b,_,rfl⟩:=qU.1 v;rfl
 have y:setAt (jN b) off (jN (s.take n))=some (jN (Ex.over b off (s.take n))):=by
  have hl:(s.take n).length=n:=by rw[qA];omega
  rw[xD (by rw[jS,jS,hl];omega)];have q:(jN (s.take n)).length=n:=by rw[jS,hl]
  rw[q,Ex.over,hl];simp only[jN,List.map_append,List.map_drop];rw[List.map_take (f:=fun c:UInt8=>AV.int .u8 ((c.toNat:Nat):Int)) (l:=b) (i:=off)]
 refine⟨_, ?_, ?_,(zRf a).put (a.lt h) (.cells (jN (Ex.over b off (s.take n))) e 1 g) (.inr rfl)⟩
 .simp only[cpy,zD2,o,t,u,zM,h,show Nat.blt 0 1=true from rfl,y,kO,kD];rfl
 .rw[zRc,if_pos rfl]
theorem zKI {n A lo hi:Nat}(j:lo<=hi)(m:hi<=n)(s:lo<n)(κ a:IntKind):xF n 1 (.ptr A 0) (some (.int κ (lo:Nat))) (some (.int a (hi:Nat))) none=some (.slice A lo (hi - lo) (2*(n - lo))):=by
 have f:=kK κ (z:=((lo:Nat):Int)) (by omega);have i:=kK a (z:=((hi:Nat):Int)) (by omega);simp only[y7]at f i;have b1:Nat.ble lo hi=true:=by rw[qV];exact j
 have b2:Nat.ble hi n=true:=by rw[qV];exact m
 have o:Nat.beq n lo=false:=by rw[y8];intro h;have:=Nat.eq_of_beq_eq_true h;omega
 have p:((2*n) % 2).beq 0=true:=by rw[jC];rfl
 have q:2*n / 2=n:=yQ n (by omega);simp[xF,kX,f,i,K1,b1,b2,p,o,q,kD,show Nat.blt 0 1=true from rfl]
theorem zCG {a b:Nat}(f:a<18446744073709551616)(hb:b<256):kI .xor (.int .u64 ((a:Nat):Int)) (.int .u64 (b:Int))=some (.int .u64 ((Nat.xor a b:Nat):Int))/\Nat.xor a b<18446744073709551616:=by
 have h:Nat.blt a (KA .u64)=true:=by rw[qD];exact f
 have i:Nat.blt b (KA .u64)=true:=by rw[qD];exact Nat.lt_trans hb (by decide)
 have hl:Nat.xor a b<18446744073709551616:=Nat.xor_lt_two_pow (n:=64) f (Nat.lt_trans hb (by decide));have j:keq .u64 .u64=true:=rfl;have m:IntKind.wrap .u64 ((Nat.xor a b:Nat):Int)=((Nat.xor a b:Nat):Int):=by rw[wrap_u64];omega
 have o:Q2 .xor .u64 (.ofNat a) (.ofNat b)=some (.int .u64 ((Nat.xor a b:Nat):Int)):=by
  simp only[Q2,IntKind.signed,Bool.not_false,h,i,qN,zM,vX,Int.ofNat_eq_natCast,m]
 have p:kI .xor (.int .u64 (.ofNat a)) (.int .u64 (.ofNat b))=Q2 .xor .u64 (.ofNat a) (.ofNat b):=by simp only[kI,gY,j,zM]
 exact⟨p.trans o,hl⟩
theorem zQt (s:Str)(k:IntKind){i:Nat}(h:i<s.length):XA (S s) (.int k ((i:Nat):Int))=some (.int .u8 (((s[i]).toNat:Nat):Int)):=by
 have:=zAy s k (z:=((i:Nat):Int)) (by omega) (by simpa using h);simpa using this
theorem VA: ∀(b:Str),u5 (List.replicate b.length 7) (jN b) (jN b)=some true
 | []=>rfl
 | x::b=>by
  have h:=J4 .u8 ((x.toNat:Nat):Int) ((x.toNat:Nat):Int);have e:ZQ .u8=7:=rfl;rw[e,decide_eq_true rfl]at h;simp only[zW,List.replicate_succ,jN,yH,u5,h];exact VA b
theorem zOS {b:Str}{n:Nat}(h:b.length=n):eqA (List.replicate n 7) (.agg (jN b)) (.agg (jN b))=some true:=by
 subst h;have a:=zIi (jN b);rw[jS]at a;have f:(List.replicate b.length 7).length=b.length:=List.length_replicate;simp only[eqA,a,f,Nat.add_zero,yF,qN,zM,VA]
end Go.Eng
namespace Go.Eng.Sh
open Go.Nd (Ptr Str be)
open Go.Bk
set_option maxRecDepth 20000
theorem zQS (H:AH){A e:Nat}{s:Str}{k:Nat}(a:H.ok)(g:H.h.get A=some (.cells (jN s) e 1 false))(hl:s.length=k):zFb (.slice A 0 k (2*k)) H=some (S s):=
 KG (n:=k) ⟨by rw[jS,hl,Nat.mul_one], .inr (.inr ⟨_,_,_,_,_,_,_,rfl,g,a.lt g,by rw[jS,hl];omega,by
  rw[yB,zX (by rw[jS,hl];omega)]⟩)⟩ (by simp)
theorem st1d {H:AH}(a:H.ok){A o e:Nat}{l:List AV}{x:AV}(h:H.h.get A=some (.cells l e 1 false))(f:Eng.isCell x=true)(i:o<l.length): ∃H',stN 1 (.ptr A o) x H=some (jO,H')/\H'.h.get A=some (.cells (l.set o x) e 1 false)/\Stp (fun B=>B=A) H H':=
 ⟨_,dW h (by decide) f i,by rw[zRc,if_pos rfl],(zRf a).put (a.lt h) _ (.inr rfl)⟩
theorem zMA (x:AV): ∀n,rep n [x]=List.replicate n x
 | 0=>rfl
 | n+1=>by rw[rep,zMA x n,List.replicate_succ];rfl
theorem dZ (n:Nat):rep n [AV.int .u8 ((0:Nat):Int)]=jN (List.replicate n 0):=by
 rw[zMA];simp[jN]
theorem bytesV_cells (b:Str):jP (jN b)=true:=by
 rw[kY];intro x a;obtain⟨b,_,rfl⟩:=qU.1 a;rfl
theorem xS {A e k:Nat}{H:AH}{l:List AV}{g:Bool}(h:H.h.get A=some (.cells l e 1 g))(hl:l.length=k):ldN k (.ptr A 0) H=some (.agg l):=by
 rw[jQ h,kW _ _ _ (.inr (by omega)),yB,<-hl,j8];rfl
theorem stR {H:AH}(i:H.ok){A e n:Nat}{b b':Str}(h:H.h.get A=some (.cells (jN b) e 1 false))(a:b.length=n)(j:b'.length=n):
  ∃H',stN n (.ptr A 0) (.agg (jN b')) H=some (jO,H')/\H'.h.get A=some (.cells (jN b') e 1 false)/\Stp (fun B=>B=A) H H':=by
 obtain⟨H',f,m,o,_⟩:=jW i h (l':=jN b') (by rw[jS,jS,a,j]) (bytesV_cells b');rw[jS,a]at f;exact⟨H',f,m,o⟩
theorem ldR {H:AH}{A e n:Nat}{b:Str}{g:Bool}(h:H.h.get A=some (.cells (jN b) e 1 g))(a:b.length=n):ldN n (.ptr A 0) H=some (.agg (jN b)):=xS h (by rw[jS,a])
theorem zOW (D:Dyn)(n:Nat){H:AH}(s:Str)(t:s.length<n)(u:s.length<=1000000000):f225 D n [S s] H=some (.int .u64 ((U7 s:Nat):Int),H):=by
 have m:jY n (QP D n) [.int .u64 ((14695981039346656037:Nat):Int),S s, .int .i64 ((s.length:Nat):Int), .int .i64 ((0:Nat):Int)] H=some (.exit 0 [.int .u64 ((U7 s:Nat):Int)],H):=by
  refine vK (fun i=>[.int .u64 ((U7 (s.take i):Nat):Int),S s, .int .i64 ((s.length:Nat):Int), .int .i64 ((i:Nat):Int)]) s.length (fun i hi=> ?_) (fun k=> ?_) n (by omega)
  .have hl:U7 (s.take i)<18446744073709551616:=zAc _ _ (by omega);have o:=zQt s .i64 hi;have v:=(s[i]).toNat_lt;obtain⟨f,q⟩:=zCG (a:=U7 (s.take i)) (b:=(s[i]).toNat) hl (by omega);have p:IntKind.wrap .u64 (((s[i]).toNat:Nat):Int)=(((s[i]).toNat:Nat):Int):=by rw[wrap_u64];omega
   have h:kI .mul (.int .u64 ((Nat.xor (U7 (s.take i)) (s[i]).toNat:Nat):Int)) (.int .u64 ((1099511628211:Nat):Int))=some (.int .u64 ((U7 (s.take (i+1)):Nat):Int)):=by
    rw[zFo,wrap_u64,qJ hi];have e:U7 (s.take i++[s[i]])=Nat.xor (U7 (s.take i)) (s[i]).toNat*1099511628211 % 18446744073709551616:=zBk _ _ _;rw[e,Int.natCast_emod,Int.natCast_mul];rfl
   have j:((i:Nat):Int)< ((s.length:Nat):Int):=by omega
   have hi1:((i:Nat):Int)+((1:Nat):Int)=((i+1:Nat):Int):=by omega
   simp(maxSteps:=999999)(disch:=omega) only[QP,eZ,j,o,p,f,h,hi1]
  .refine jU ?_;simp only[QP,eZ,yA,j8]
 simp only[f225,f230,eZ,cG,m,UX]
theorem zJQ (D:Dyn)(n:Nat)(o:1000<=n){H:AH}(i:H.ok){b:Str}(hb:b.length=512): ∃H',f208 D n [.agg (jN b)] H=some (.int .u64 ((U7 b:Nat):Int),H')/\Prs H H':=by
 obtain⟨a,A1,b1,f,j,p,q⟩:=box i (.cells (jN b) 55 1 false);have m:xF 512 1 (.ptr A1 0) none none none=some (.slice A1 0 512 1024):=rfl;have h:zFb (.slice A1 0 512 1024) a=some (S b):=zQS a f.ok j hb;have e:=zOW D n (H:=a) b (by omega) (by omega);refine⟨a, ?_,f⟩;simp(maxSteps:=999999)(disch:=omega) only[f208,eZ,b1,m,h,e]
theorem zHn (D:Dyn)(n:Nat)(hn:1000<=n){H:AH}(hk:H.ok)(kind:UInt8){birth:Nat}(hb:birth<=2147483647){body:Str}(hl:body.length<=500):
  ∃H',zGt D n [.int .u8 ((kind.toNat:Nat):Int), .int .i64 ((birth:Nat):Int),S body] H=some (.tuple [.agg (jN (sealB kind birth body)), .int .i64 ((0:Nat):Int)],H')/\Prs H H':=by
 obtain⟨Z,F⟩: ∃Z:Str,Z=List.replicate 512 0:=⟨_,rfl⟩;have a0:Z.length=512:=by rw[F];simp
 have a1:rep 512 [AV.int .u8 ((0:Nat):Int)]=jN Z:=by rw[dZ,F]
 obtain⟨H1,A6,b1,t,g1,m1,n1⟩:=box hk (.cells (jN Z) 55 1 false);obtain⟨H2,a,b2,u,g2,m2,n2⟩:=box t.ok (.cells (jN Z) 55 1 false);have N1:=t.next;have N2:=u.next
 have t1: ¬((birth:Nat):Int)< ((0:Nat):Int):=by omega
 have t2: ¬((2147483647:Nat):Int)< ((birth:Nat):Int):=by omega
 have t3: ¬((500:Nat):Int)< ((body.length:Nat):Int):=by omega
 have s0:xF 512 1 (.ptr a 0) none none none=some (.slice a 0 512 1024):=rfl;have s1:xF 512 1 (.ptr a 0) (some (.int .i64 ((6:Nat):Int))) (some (.int .i64 ((8:Nat):Int))) none=some (.slice a 6 2 1012):=rfl;have s2:xF 512 1 (.ptr a 0) (some (.int .i64 ((8:Nat):Int))) (some (.int .i64 ((12:Nat):Int))) none=some (.slice a 8 4 1008):=rfl;have s3:xF 512 1 (.ptr a 0) (some (.int .i64 ((12:Nat):Int))) none none=some (.slice a 12 500 1000):=rfl;have ix:fJ 512 1 (.ptr a 0) (.int .i64 ((4:Nat):Int))=some (.ptr a 4):=rfl;have hm:(AV.str 4 2037675114)=S u4:=rfl;obtain⟨H3,v,J,i⟩:=zQM (off:=0) (m:=512) (cc:=1024) (s:=u4) g2 u.ok (by omega);have W:min u4.length 512=4:=rfl;rw[W]at v J;have o3:Ex.over Z 0 (u4.take 4)=u4++(0::List.replicate 507 0):=by
  rw[F];rfl
 rw[o3]at J;obtain⟨H4,e4,L,st4⟩:=st1d i.ok J (o:=4) (x:= .int .u8 ((kind.toNat:Nat):Int)) rfl (by rw[jS];simp[u4]);have o4:(jN (u4++(0::List.replicate 507 0))).set 4 (.int .u8 ((kind.toNat:Nat):Int))=jN ((u4++[kind,0])++List.replicate 506 0):=by
  simp[jN,u4,List.replicate_succ]
 rw[o4]at L;obtain⟨H5,e5,N,j,_⟩:=zHO D n st4.ok (off:=6) (k:=2) (cc:=1012) body.length L (by rw[jS];simp[u4]) (by omega) (by omega);have o5:(jN ((u4++[kind,0])++List.replicate 506 0)).take 6++(jN (be 2 body.length)++(jN ((u4++[kind,0])++List.replicate 506 0)).drop (6+2))=jN ((u4++([kind,0]++be 2 body.length))++List.replicate 504 0):=by
  simp[jN,u4,List.replicate_succ]
 rw[o5]at N;obtain⟨H6,e6,O,p,_⟩:=zHO D n j.ok (off:=8) (k:=4) (cc:=1008) birth N (by rw[jS];simp[u4,Nd.be_length]) (by omega) (by omega);have y:(u4++([kind,0]++be 2 body.length)).length=8:=by simp[u4,Nd.be_length]
 have o6:(jN ((u4++([kind,0]++be 2 body.length))++List.replicate 504 0)).take 8++(jN (be 4 birth)++(jN ((u4++([kind,0]++be 2 body.length))++List.replicate 504 0)).drop (8+4))=jN (zAA kind birth body.length++List.replicate 500 0):=by
  obtain⟨Y,T⟩: ∃Y,Y=u4++([kind,0]++be 2 body.length):=⟨_,rfl⟩;rw[<-T]at y⊢;have e1:(jN (Y++List.replicate 504 0)).take 8=jN Y:=by
   simp only[jN,List.map_append];rw[j9 (by rw[jB,y])]
  have e2:(jN (Y++List.replicate 504 0)).drop 12=jN (List.replicate 500 0):=by
   simp only[jN,List.map_append];rw[show 12=8+4 from rfl,<-List.drop_drop,yY (by rw[jB,y])];simp
  have v:zAA kind birth body.length=Y++be 4 birth:=by rw[T,zAA];simp
  rw[e1,show 8+4=12 from rfl,e2,v];simp[jN]
 rw[o6]at O;have z:=XC kind birth body.length;obtain⟨H7,U,K,q⟩:=zQM (off:=12) (m:=500) (cc:=1000) (s:=body) O p.ok (by simp[z]);have V:min body.length 500=body.length:=by omega
 rw[V]at U K;have o7:Ex.over (zAA kind birth body.length++List.replicate 500 0) 12 (body.take body.length)=sealB kind birth body:=by
  rw[j8,Ex.over,j9 z,show 12+body.length=12+body.length from rfl,<-List.drop_drop,yY z,List.drop_replicate,sealB,qI]
 rw[o7]at K;have M3:=i.next;have M4:=st4.next;have M5:=j.next;have M6:=p.next;have M7:=q.next
 have C:=sealB_len (kind:=kind) (birth:=birth) hl;have a2:H7.h.get A6=some (.cells (jN Z) 55 1 false):=by
  rw[q.keep _ (by omega) (by omega),p.keep _ (by omega) (by omega),j.keep _ (by omega) (by omega),st4.keep _ (by omega) (by omega),i.keep _ (by omega) (by omega)];exact zRn u t.ok g1
 obtain⟨H8,e8,g8,a3⟩:=stR q.ok a2 a0 C;have r8:=ldR K C;have r6:=ldR g8 C;have w1:IntKind.wrap .u64 ((body.length:Nat):Int)=((body.length:Nat):Int):=by rw[wrap_u64];omega
 have w2:IntKind.wrap .u64 ((birth:Nat):Int)=((birth:Nat):Int):=by rw[wrap_u64];omega
 refine⟨H8, ?_,(((((((t.trans u).fresh i fun B f=>by omega).fresh st4 fun B f=>by omega).fresh j fun B f=>by omega).fresh p fun B f=>by omega).fresh q fun B f=>by omega).fresh a3 fun B f=>by omega)⟩;simp(maxSteps:=999999)(disch:=omega) only[zGt,eZ,a1,b1,t1,t2,cG,t3,b2,s0,hm,v,ix,e4,s1,zDK,w1,e5,s2,w2,e6,s3,U,r8,e8,r6]
end Go.Eng.Sh
end
section
namespace Go.Bk
open Go.Nd (Str be bee)
theorem seal_parts {kind:UInt8}{birth:Nat}{body:Str} :((sealB kind birth body).drop 6).take 2=be 2 body.length/\((sealB kind birth body).drop 8).take 4=be 4 birth/\((sealB kind birth body).drop 12).take body.length=body/\(sealB kind birth body)[4]? =some kind:=by
 have a:sealB kind birth body=(u4++[kind,0])++(be 2 body.length++(be 4 birth++(body++List.replicate (500 - body.length) 0))):=by simp[sealB,zAA]
 have f:sealB kind birth body=(u4++[kind,0]++be 2 body.length)++(be 4 birth++(body++List.replicate (500 - body.length) 0)):=by simp[sealB,zAA]
 refine⟨?_, ?_, ?_, ?_⟩
 .rw[a,yY (by simp[u4]),j9 (Nd.be_length _ _)]
 .rw[f,yY (by simp[u4,Nd.be_length]),j9 (Nd.be_length _ _)]
 .rw[sealB,yY (XC _ _ _),j9 rfl]
 .rw[a];simp[u4]
theorem seal_inj {k k':UInt8}{b:Nat}{s s':Str}(m:s.length<=500)(j:s'.length<=500)(e:sealB k b s=sealB k' b s'):k=k'/\s=s':=by
 obtain⟨q1,_,q3,a⟩:=seal_parts (kind:=k) (birth:=b) (body:=s);obtain⟨f,_,h,i⟩:=seal_parts (kind:=k') (birth:=b) (body:=s');rw[e]at q1 q3 a;rw[f]at q1;have hl:=congrArg bee q1;rw[Nd.bee_be,Nd.bee_be,Nat.mod_eq_of_lt (by omega),Nat.mod_eq_of_lt (by omega)]at hl;rw[<-hl,h]at q3;rw[i]at a;exact⟨(yD a).symm,q3.symm⟩
end Go.Bk
namespace Go.Eng.Sh
open Go.Nd (Ptr Str be bee)
open Go.Bk
set_option maxRecDepth 20000
theorem rowB {H:AH}(a:H.ok){A e lo k cc:Nat}{b:Str}(g:H.h.get A=some (.cells (jN b) e 1 false))(h:lo+k<=b.length):Rw 1 H (.slice A lo k cc) k (jN ((b.drop lo).take k)):=
 ⟨by rw[jS,qA,qK];omega, .inr (.inr ⟨_,_,_,_,_,_,_,rfl,g,a.lt g,by rw[jS];omega,by
  rw[Nat.mul_one];simp[jN,List.map_take,List.map_drop]⟩)⟩
theorem zI1 (D:Dyn)(n:Nat)(W:1000<=n){H:AH}(Y:H.ok)(kind:UInt8){birth:Nat}(hb:birth<=2147483647){body:Str}(hl:body.length<=500):
  ∃H',zKn D n [.agg (jN (sealB kind birth body))] H=some (.tuple [.int .u8 ((kind.toNat:Nat):Int), .int .i64 ((birth:Nat):Int),S body, .int .i64 ((0:Nat):Int)],H')/\Prs H H':=by
 obtain⟨B,p⟩: ∃B,B=sealB kind birth body:=⟨_,rfl⟩;obtain⟨q1,q2,q3,q⟩:=seal_parts (kind:=kind) (birth:=birth) (body:=body);have f:=sealB_len (kind:=kind) (birth:=birth) hl;rw[<-p]at q1 q2 q3 q f⊢;obtain⟨j,A1,b1,a,i,m1,n1⟩:=box Y (.cells (jN B) 55 1 false);have s1:xF 512 1 (.ptr A1 0) (some (.int .i64 ((6:Nat):Int))) (some (.int .i64 ((8:Nat):Int))) none=some (.slice A1 6 2 1012):=rfl;have s2:xF 512 1 (.ptr A1 0) (some (.int .i64 ((8:Nat):Int))) (some (.int .i64 ((12:Nat):Int))) none=some (.slice A1 8 4 1008):=rfl;have s3:xF 512 1 (.ptr A1 0) (some (.int .i64 ((12:Nat):Int))) (some (.int .u64 ((12+body.length:Nat):Int))) none=some (.slice A1 12 body.length 1000):=by
  have:=zKI (n:=512) (A:=A1) (lo:=12) (hi:=12+body.length) (by omega) (by omega) (by omega) .i64 .u64;rw[this,show 12+body.length - 12=body.length by omega]
 have ix:fJ 512 1 (.ptr A1 0) (.int .i64 ((4:Nat):Int))=some (.ptr A1 4):=rfl;have s:=rowB (cc:=1012) a.ok i (lo:=6) (k:=2) (by omega);have t:=rowB (cc:=1008) a.ok i (lo:=8) (k:=4) (by omega);have u:=rowB (cc:=1000) a.ok i (lo:=12) (k:=body.length) (by omega);rw[q1]at s;rw[q2]at t;rw[q3]at u;have K:Rw 1 j (.slice A1 6 2 1012) (be 2 body.length).length (jN (be 2 body.length)):=by rw[Nd.be_length];exact s
 have L:Rw 1 j (.slice A1 8 4 1008) (be 4 birth).length (jN (be 4 birth)):=by rw[Nd.be_length];exact t
 have v:=zC4 D n K (by rw[Nd.be_length];omega) (by omega);have x:=zC4 D n L (by rw[Nd.be_length];omega) (by omega);rw[Nd.bee_be,Nat.mod_eq_of_lt (by omega)]at v;rw[Nd.bee_be,Nat.mod_eq_of_lt (by omega)]at x;have N:zFb (.slice A1 12 body.length 1000) j=some (S body):=KG u (by simp);have r4:Eng.ld1 (.ptr A1 4) j=some (.int .u8 ((kind.toNat:Nat):Int)):=xT i (by
  rw[jN,jJ,q];rfl)
 obtain⟨H2,y,m⟩:=zHn D n W a.ok kind hb hl;rw[<-p]at y;obtain⟨Z,z⟩: ∃Z:Str,Z=List.replicate 512 0:=⟨_,rfl⟩;have O:Z.length=512:=by rw[z];simp
 have T:rep 512 [AV.int .u8 ((0:Nat):Int)]=jN Z:=by rw[dZ,z]
 obtain⟨H3,A7,b3,o,g3,m3,n3⟩:=box m.ok (.cells (jN Z) 55 1 false);obtain⟨C,e4,g4,F⟩:=stR o.ok g3 O f;have N2:=m.next;have N3:=o.next
 have U:C.h.get A1=some (.cells (jN B) 55 1 false):=by
  rw[F.keep _ (by omega) (by omega)];exact zRn (m.trans o) a.ok i
 have r7:=ldR g4 f;have r1:=ldR U f;have he:bZ .neq (eqA (List.replicate 512 7) (.agg (jN B)) (.agg (jN B)))=some (.bool false):=by rw[zOS f];rfl
 have t1: ¬((500:Nat):Int)< ((body.length:Nat):Int):=by omega
 have wi:IntKind.wrap .i64 ((birth:Nat):Int)=((birth:Nat):Int):=wrap_i64 (by omega) (by omega);have J:((12:Nat):Int)+((body.length:Nat):Int)=((12+body.length:Nat):Int):=by omega
 have wu:IntKind.wrap .u64 ((12+body.length:Nat):Int)=((12+body.length:Nat):Int):=by rw[wrap_u64];omega
 have V: ¬(((0:Nat):Int)≠((0:Nat):Int)):=by omega
 refine⟨C, ?_,((a.trans m).trans o).fresh F fun B p=>by omega⟩;simp(maxSteps:=999999)(disch:=omega) only[zKn,eZ,b1,s1,v,t1,ix,r4,s2,x,zDK,wi,J,wu,s3,N,y,jM,nth,T,b3,e4,V,r7,r1,he]
def fC (at_:Nat)(birth:Nat)(b:Str):Ptr:=⟨((at_:Nat):Int),((birth:Nat):Int),((U7 b:Nat):Int)⟩
theorem zLS (D:Dyn)(n:Nat)(p:1000<=n){H:AH}(N:H.ok)(kind:UInt8){at_ birth:Nat}(ha:1<=at_)(hb:birth<=2147483647){body:Str}(hl:body.length<=500):
  ∃H',f171 D n [.agg (jR (fC at_ birth (sealB kind birth body))), .agg (jN (sealB kind birth body))] H=some (.tuple [.int .u8 ((kind.toNat:Nat):Int),S body, .int .i64 ((0:Nat):Int)],H')/\Prs H H':=by
 obtain⟨B,q⟩: ∃B,B=sealB kind birth body:=⟨_,rfl⟩;have i:=sealB_len (kind:=kind) (birth:=birth) hl;rw[<-q]at i;obtain⟨H1,A2,b1,m,O,m1,n1⟩:=box N (.cells (jR (fC at_ birth B)) 42 1 false);obtain⟨s,A3,b2,a,t,m2,n2⟩:=box m.ok (.cells (jN B) 55 1 false);obtain⟨T,U,f⟩:=zJQ D n p a.ok i;obtain⟨u,v,x⟩:=zI1 D n p f.ok kind hb hl;rw[<-q]at v⊢;have j:=zRn a m.ok O;have o:=zRn f a.ok j;have y:=zRn f a.ok t;have z:=zRn x f.ok o;have V:Eng.ld1 (.ptr A2 0) s=some (.int .i64 ((at_:Nat):Int)):=by rw[jL j];rfl
 have W:Eng.ld1 (.ptr A2 2) s=some (.int .u64 ((U7 B:Nat):Int)):=by rw[jL j];rfl
 have C:Eng.ld1 (.ptr A2 2) T=some (.int .u64 ((U7 B:Nat):Int)):=by rw[jL o];rfl
 have F:Eng.ld1 (.ptr A2 1) u=some (.int .i64 ((birth:Nat):Int)):=by rw[jL z];rfl
 have Y:=ldR t i;have J:=ldR y i;have Z: ¬((at_:Nat):Int)=((0:Nat):Int):=by omega
 have L: ¬(((0:Nat):Int)≠((0:Nat):Int)):=by omega
 have tS: ¬(((U7 B:Nat):Int)≠((U7 B:Nat):Int)):=fun h=>h rfl
 have tb: ¬(((birth:Nat):Int)≠((birth:Nat):Int)):=fun h=>h rfl
 have ck: ∀K:Rs,chk (some (.int .u64 ((U7 B:Nat):Int))) (.int .u64 ((U7 B:Nat):Int)) K=K:=fun K=>wC rfl (by simp[aveq,xP,xQ])
 refine⟨u, ?_,((m.trans a).trans f).trans x⟩;simp(maxSteps:=999999)(disch:=omega) only[f171,eZ,b1,b2,V,Z,Y,W,U,C,ck,tS,J,v,jM,nth,L,F,tb]
end Go.Eng.Sh
end
section
namespace Go.Eng
theorem cq:(∀A o,bZ .eql (eqP (.ptr A o) .nilPtr)=some (.bool false))/\bZ .eql (eqP .nilPtr .nilPtr)=some (.bool true)/\(∀M,bZ .eql (eqM (.map M) .nilMap)=some (.bool false))/\(∀A o,bZ .neq (eqP (.ptr A o) .nilPtr)=some (.bool true))/\bZ .neq (eqP .nilPtr .nilPtr)=some (.bool false):=
 ⟨fun _ _=>rfl,rfl,fun _=>rfl,fun _ _=>rfl,rfl⟩
end Go.Eng
namespace Go.Bk
open Go.Nd (Str)
abbrev Ws:=List (Nat×Str)
def YY (n:Nat):Ws->Option Nat
 | []=>none
 | (a,_)::l=>match YY n l with
  | some i=>some (i+1)
  | none=>if a=n then some 0 else none
theorem YX (n a:Nat)(b:Str): ∀l:Ws,YY n (l++[(a,b)])=if a=n then some l.length else YY n l
 | []=>by simp[YY]
 | (c,d)::l=>by
  simp only[qF,YY,YX n a b l];by_cases e:a=n
  .simp[e]
  .simp[e]
theorem K9 {n:Nat} : ∀ {l:Ws} {i:Nat},YY n l=some i-> ∃h:i<l.length,(l[i]).1=n
 | (a,b)::l,i,h=>by
  simp only[YY]at h
  cases hl:YY n l with
  | some j=>
   rw[hl]at h;simp only[zB]at h;subst h;obtain⟨f,m⟩:=K9 hl;exact⟨by simpa using f,by simpa using m⟩
  | none=>
   rw[hl]at h;simp only at h;by_cases e:a=n
   .rw[if_pos e]at h;cases h;exact⟨by simp,e⟩
   .rw[if_neg e]at h;cases h
def blkAt (n:Nat)(l:Ws):Option Str:=(YY n l).bind fun i=>(l[i]?).map (·.2)
theorem aN (n a:Nat)(b:Str)(l:Ws):blkAt n (l++[(a,b)])=if a=n then some b else blkAt n l:=by
 rw[blkAt,YX];by_cases e:a=n
 .rw[if_pos e,if_pos e];simp
 .rw[if_neg e,if_neg e,blkAt]
  cases hl:YY n l with
  | none=>rfl
  | some i=>
   obtain⟨f,_⟩:=K9 hl;simp[yX f]
end Go.Bk
namespace Go.Eng.Sh
open Go.Nd (Ptr Str)
open Go.Bk
set_option maxRecDepth 20000
def wV (w:Nat×Str):List AV:= .int .i64 ((w.1:Nat):Int)::jN w.2
structure DkI (H:AH)(Ad nb:Nat)(ws:Ws)(On Nw:Nat)(wv:AV)(es:List (AV×AV)):Prop where
 gD:H.h.get Ad=some (.cells [.int .i64 ((nb:Nat):Int), .map On,wv, .map Nw, .int .i64 ((0:Nat):Int), .nilSlice, .bool false] 151 1 false)
 gO:H.h.get On=some (.map [6] [])
 gN:H.h.get Nw=some (.map [6] es)
 ow:Own 513 153 H wv ws.length (ws.flatMap wV)
 nw: ∀n:Nat,xJ (.int .i64 ((n:Nat):Int)) es=(YY n ws).map fun i=> .int .i64 ((i:Nat):Int)
 ln: ∀w∈ws,w.2.length=512
 few:ws.length<=1000000
 ne:On≠Nw
theorem zDY {w:Nat×Str}(h:w.2.length=512):(wV w).length=513:=by simp[wV,jS,h]
theorem zIF: ∀(l:Ws) (i:Nat) (h:i<l.length),(∀w∈l,w.2.length=512)->((l.flatMap wV).drop (i*513)).take 513=wV l[i]
 | p::l,0,_,hl=>by
  rw[Nat.zero_mul,yB,qG,j9 (zDY (hl p zK))];rfl
 | p::l,i+1,h,hl=>by
  rw[qG,show(i+1)*513=513+i*513 by omega,<-List.drop_drop,yY (zDY (hl p zK))];exact zIF l i (by simpa using h) fun w a=>hl w (zC _ a)
def zDR (n:Nat)(a:Ws):Str:=(blkAt n a).getD (List.replicate 512 0)
theorem zLZ {n:Nat}{a:Ws}(h: ∀w∈a,w.2.length=512):(zDR n a).length=512:=by
 rw[zDR,blkAt]
 cases hl:YY n a with
 | none=>simp
 | some i=>
  obtain⟨f,_⟩:=K9 hl;simp only[yI,zJ f,zZ,qZ];exact h _ (qY f)
theorem zOh (z:Int):keyOk [6] (.int .i64 z)=true:=rfl
theorem zNe (D:Dyn)(n:Nat){H:AH}{Ad nb:Nat}{h:Ws}{i j:Nat}{m:AV}{es:List (AV×AV)}(d:DkI H Ad nb h i j m es){k:Nat}(t:k<nb):f74 D n [.ptr Ad 0, .int .i64 ((k:Nat):Int)] H=some (.int .i64 ((0:Nat):Int),H):=by
 have o:Eng.ld1 (.ptr Ad 6) H=some (.bool false):=by rw[jL d.gD];rfl
 have p:Eng.ld1 (.ptr Ad 0) H=some (.int .i64 ((nb:Nat):Int)):=by rw[jL d.gD];rfl
 have a:f120 D n [.ptr Ad 0] H=some (.int .i64 ((0:Nat):Int),H):=by
  simp(maxSteps:=999999)(disch:=omega) only[f120,eZ,cq,o]
 have f: ¬(((0:Nat):Int)≠((0:Nat):Int)):=by omega
 have q: ¬((k:Nat):Int)< ((0:Nat):Int):=by omega
 have s: ¬((nb:Nat):Int)<=((k:Nat):Int):=by omega
 simp(maxSteps:=999999)(disch:=omega) only[f74,eZ,a,f,q,p,s]
theorem zCp (D:Dyn)(n:Nat){H:AH}(q:H.ok){Ad nb:Nat}{a:Ws}{s m:Nat}{u:AV}{es:List (AV×AV)}(d:DkI H Ad nb a s m u es){k:Nat}(S:k<nb):
  ∃H',f25 D n [.ptr Ad 0, .int .i64 ((k:Nat):Int)] H=some (.tuple [.agg (jN (zDR k a)), .int .i64 ((0:Nat):Int)],H')/\Prs H H':=by
 obtain⟨Z,v⟩: ∃Z:Str,Z=List.replicate 512 0:=⟨_,rfl⟩;have T:Z.length=512:=by rw[v];simp
 have F:rep 512 [AV.int .u8 ((0:Nat):Int)]=jN Z:=by rw[dZ,v]
 obtain⟨f,A4,b1,j,Y,m1,n1⟩:=box q (.cells (jN Z) 55 1 false);have h:DkI f Ad nb a s m u es:=⟨zRn j q d.gD,zRn j q d.gO,zRn j q d.gN,d.ow.mono j fun _ _ x=>x,d.nw,d.ln,d.few,d.ne⟩;have L:=zNe D n h S;have J: ¬(((0:Nat):Int)≠((0:Nat):Int)):=by omega
 have N:Eng.ld1 (.ptr Ad 3) f=some (.map m):=by rw[jL h.gD];rfl
 have r1:Eng.ld1 (.ptr Ad 1) f=some (.map s):=by rw[jL h.gD];rfl
 have r2:Eng.ld1 (.ptr Ad 2) f=some u:=by rw[jL h.gD];rfl
 have K:(zDR k a).length=512:=zLZ d.ln;obtain⟨H2,y,g2,s2⟩:=stR j.ok Y T K;have z:=ldR g2 K;refine⟨H2, ?_,j.fresh s2 fun B hB=>by omega⟩
 cases hl:YY k a with
 | none=>
  have p:=d.nw k;rw[hl]at p;have t:lkM [6] (.int .i64 ((0:Nat):Int)) true (.map m) (.int .i64 ((k:Nat):Int)) f=some (.tuple [.int .i64 ((0:Nat):Int), .bool false]):=by
   simp only[lkM,zOh,zM,h.gN,show QX [6] [6]=true from rfl,p,Option.map_none];rfl
  have U:lkM [6] (.agg (jN Z)) false (.map s) (.int .i64 ((k:Nat):Int)) f=some (.agg (jN Z)):=by
   simp only[lkM,zOh,zM,h.gO,show QX [6] [6]=true from rfl,xJ];rfl
  have C:zDR k a=Z:=by rw[zDR,blkAt,hl,v];rfl
  rw[C]at y z⊢;simp(maxSteps:=999999)(disch:=omega) only[f25,eZ,F,b1,L,J,N,t,jM,nth,r1,U,y,z]
 | some i=>
  obtain⟨hi,_⟩:=K9 hl;have p:=d.nw k;rw[hl]at p;have t:lkM [6] (.int .i64 ((0:Nat):Int)) true (.map m) (.int .i64 ((k:Nat):Int)) f=some (.tuple [.int .i64 ((i:Nat):Int), .bool true]):=by
   simp only[lkM,zOh,zM,h.gN,show QX [6] [6]=true from rfl,p,zZ];rfl
  have C:zDR k a=a[i].2:=by rw[zDR,blkAt,hl];simp[zJ hi]
  obtain⟨A,o,c,e,sz,g,q1,q2,q3,q4,O⟩:=Rw.at h.ow.row hi;rw[zIF a i hi d.ln]at O;have V:=q1 .i64 ((i:Nat):Int) rfl;have W:ldN 512 (.ptr A (o+1)) f=some (.agg (jN (zDR k a))):=by
   rw[YW q2 (by omega),C];have h2:(c.drop (o+1)).take 512=((c.drop o).take 513).drop 1:=by
    rw[List.drop_take,List.drop_drop]
   rw[h2,O];rfl
  simp(maxSteps:=999999)(disch:=omega) only[f25,eZ,F,b1,L,J,N,t,jM,nth,r2,V,W,y,z]
end Go.Eng.Sh
end

