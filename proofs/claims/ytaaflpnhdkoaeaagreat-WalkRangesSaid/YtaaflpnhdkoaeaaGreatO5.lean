/- A checked evaluator for the program, and what it tells, part 5: no condition. -/
import Derived.Test.YtaaflpnhdkoaeaaGreatO4
set_option linter.all false
set_option linter.unusedVariables false
set_option linter.unusedSimpArgs false
set_option maxHeartbeats 8000000
set_option maxRecDepth 20000
section
namespace Go.Eng.Sh
open Go.Nd (Ptr bee mayP k9 kI uR YN YO)
def ZT (H0 H:AH)(v:AV)(nd:Nd.Node):Prop:= ∃ks vs a,v= .agg [.bool nd.leaf,ks,vs,a]/\Own 1 9 H ks nd.keys.length (nd.keys.map S)/\Own 1 9 H vs nd.vals.length (nd.vals.map S)/\Own 3 42 H a nd.kids.length (nd.kids.flatMap qZ)/\(∀B,Blk ks B\/Blk vs B\/Blk a B->H0.next<=B)/\(∀B,Blk ks B-> ¬Blk vs B/\ ¬Blk a B)/\ ∀B,Blk vs B-> ¬Blk a B
theorem ZT.node {H0 H:AH}{v:AV}{nd:Nd.Node}(h:ZT H0 H v nd):bE H v nd:=by
 obtain⟨ks,vs,a,e,f,i,j,_⟩:=h;exact⟨ks,vs,a,e,f.row,i.row,j.row⟩
theorem zCV {a b:Nat}(s:a<256)(hb:b<256):jM .or (.int .i64 ((a*256:Nat):Int)) (.int .i64 (b:Int))=some (.int .i64 (((a*256+b):Nat):Int)):=by
 have f:a*256||| b=a*256+b:=by
  have:=Nat.two_pow_add_eq_or_of_lt (b:=b) (i:=8) (by omega) a;rw[Nat.mul_comm a 256];exact this.symm
 have h:keq .i64 .i64=true:=rfl;have j:BitVec.ofInt 64 ((a*256:Nat):Int)=BitVec.ofNat 64 (a*256):=BitVec.ofInt_natCast _ _;have m:BitVec.ofInt 64 (b:Int)=BitVec.ofNat 64 b:=BitVec.ofInt_natCast _ _;have o:(BitVec.ofNat 64 (a*256)||| BitVec.ofNat 64 b).toNat=a*256+b:=by
  rw[BitVec.toNat_or,BitVec.toNat_ofNat,BitVec.toNat_ofNat,Nat.mod_eq_of_lt (by omega),Nat.mod_eq_of_lt (by omega),f]
 have p:jM .or (.int .i64 (.ofNat (a*256))) (.int .i64 (.ofNat b))=aC.slow .or .i64 (.ofNat (a*256)) (.ofNat b):=by
  simp only[jM,uA,h,cond_true,aC,IntKind.signed,Bool.not_true,Bool.false_and,cond_false]
 have q:aC.slow .or .i64 (.ofNat (a*256)) (.ofNat b)=some (.int .i64 ((a*256+b:Nat):Int)):=by
  have h8:aC.slow .or .i64 (.ofNat (a*256)) (.ofNat b)=fI (IntKind.wrap .i64 ((BitVec.ofInt 64 ((a*256:Nat):Int)||| BitVec.ofInt 64 (b:Int)).toNat:Nat)) (fun n=>some (.int .i64 n)):=rfl;rw[h8,zF3,j,m,o,wrap_i64 (by omega) (by omega)]
 exact p.trans q
theorem head2 {s:Str}(h:2<=s.length): ∃a b,s.take 2=[a,b]/\bee (s.take 2)=a.toNat*256+b.toNat:=by
 match s,h with
 | a::b::l,_=>exact⟨a,b,rfl,by simp[bee]⟩
theorem RdI.base {R:Nat}{H0 H H':AH}{rest:Str}{f leaf:Bool}(h:RdI R H0 H rest f leaf .nilSlice .nilSlice .nilSlice [] [] [])(s:Prs H H'):RdI R H' H' rest f leaf .nilSlice .nilSlice .nilSlice [] [] []:=by
 obtain⟨e,i⟩:=h.get;exact⟨Stp.refl s.ok,⟨e,s.get h.prs.ok i⟩,Own.nil _ _ _,Own.nil _ _ _,Own.nil _ _ _,fun B a=>(Blk.nil.1 a).elim,fun B a=>(Blk.nil.1 a).elim,fun B a=>(Blk.nil.1 a).elim,h.small⟩
theorem zPL (D:Dyn)(n:Nat)(hn:200000000<=n){R A4:Nat}{H0 u H:AH}{rest:Str}{z leaf:Bool}{kv m o:AV}{ks vs:List Str}{s:List Ptr}(a:RdI R u H rest z leaf kv m o ks vs s)(hA: ∃c e,c.length=4/\u.h.get A4=some (.cells c e 1 false))(a6:A4≠R)
  (a1:u.ok) (h0:Prs H0 u) (hR:H0.next<=R) (a2:H0.next<=A4) (V:z=true\/small ⟨leaf,ks,vs,s⟩):
  ∃v H',gP (vP D n [.ptr A4 0, .ptr R 0] H)=some (.tuple [v, .int .i64 ((if z=false/\rest=[]/\Nd.may ltS ⟨leaf,ks,vs,s⟩=true then 0 else 4:Nat):Int)],H')/\Prs H0 H'/\((z=false/\rest=[]/\Nd.may ltS ⟨leaf,ks,vs,s⟩=true)->ZT H0 H' v ⟨leaf,ks,vs,s⟩)/\ ∃l,v= .agg l/\l.length=4/\qW l=true:=by
 obtain⟨e,t⟩:=a.get;obtain⟨c,ec,N,W⟩:=hA;have Y:wY [(0,1),(1,1),(2,1),(3,1)] [.bool false, .nilSlice, .nilSlice, .nilSlice] []=some (.agg [.bool false, .nilSlice, .nilSlice, .nilSlice]):=rfl;have a3:H.h.get A4=some (.cells c ec 1 false):=(a.prs.keep A4 (a1.lt W) a6).trans W;have hP:Prs H0 H:=h0.fresh a.prs (fun B f=>by rw[f];exact hR);have U: ∀C,Prs H C-> ∃i,stN 4 (.ptr A4 0) (.agg [.bool false, .nilSlice, .nilSlice, .nilSlice]) C=some (qX,i)/\ldN 4 (.ptr A4 0) i=some (.agg [.bool false, .nilSlice, .nilSlice, .nilSlice])/\Prs H0 i:=by
  intro C j;obtain⟨i,q,Z,y,n3⟩:=y9 j.ok (j.get a.prs.ok a3) (l':=[.bool false, .nilSlice, .nilSlice, .nilSlice]) (by simp[N]) rfl;rw[N]at q;refine⟨i,q,by rw[qY Z];rfl,(hP.trans j).fresh y (fun B f=>by rw[f];exact a2)⟩
 cases z with
 | true=>
  obtain⟨i,q,F,J⟩:=U H (Stp.refl a.prs.ok);refine⟨.agg [.bool false, .nilSlice, .nilSlice, .nilSlice],i, ?_,J,fun h=>by simp at h,_,rfl,rfl,rfl⟩;simp only[vP,eZ,qT t,Y,q,F,false_and,Bool.true_eq_false]
 | false=>
  have V:=V.resolve_left (by simp);by_cases hr:rest=[]
  .subst hr;have a5:bE H (.agg [.bool leaf,kv,m,o]) ⟨leaf,ks,vs,s⟩:=⟨kv,m,o,rfl,a.k.row,a.v.row,a.p.row⟩;obtain⟨C,O,j⟩:=zNf D n a.prs.ok a5 V hn;have K: ¬(([]:Str)≠[]):=by simp
   have L:(AV.str 0 0)=S []:=rfl;have a0:xX [S [], .bool false, .bool leaf,kv,m,o] 2 4=some [.bool leaf,kv,m,o]:=rfl
   cases hm:Nd.may ltS ⟨leaf,ks,vs,s⟩with
   | false=>
    obtain⟨i,q,F,J⟩:=U C j;rw[hm]at O;refine⟨.agg [.bool false, .nilSlice, .nilSlice, .nilSlice],i, ?_,J,fun h=>by simp at h,_,rfl,rfl,rfl⟩;simp only[vP,eZ,qT t,qY t,a0,Option.map_some,L,K,O,Y,q,F,and_false]
   | true=>
    rw[hm]at O;have a4:qW [.bool leaf,kv,m,o]=true:=by
     rw[jC];intro x hx;simp only[List.mem_cons,List.not_mem_nil,or_false]at hx;rcases hx with rfl | rfl | rfl | rfl
     .rfl
     .exact a.k.row.isCell
     .exact a.v.row.isCell
     .exact a.p.row.isCell
    obtain⟨i,q,Z,y,n3⟩:=y9 j.ok (j.get a.prs.ok a3) (l':=[.bool leaf,kv,m,o]) (by simp[N]) a4;rw[N]at q;have a7:ldN 4 (.ptr A4 0) i=some (.agg [.bool leaf,kv,m,o]):=by rw[qY Z];rfl
    have a8:A4<u.next:=a1.lt W
    have T: ∀B,Blk kv B\/Blk m B\/Blk o B->u.next<=B:=by
     rintro B (h | h | h)
     .exact(a.kb B h).1
     .exact(a.vb B h).1
     .exact(a.pb B h).1
    refine⟨.agg [.bool leaf,kv,m,o],i, ?_,(hP.trans j).fresh y (fun B f=>by rw[f];exact a2),fun _=>⟨kv,m,o,rfl,(a.k.mono j (fun _ _ x=>x)).mono y (fun B f=>by have:=T B (.inl f);omega),(a.v.mono j (fun _ _ x=>x)).mono y (fun B f=>by have:=T B (.inr (.inl f));omega),(a.p.mono j (fun _ _ x=>x)).mono y (fun B f=>by have:=T B (.inr (.inr f));omega),fun B f=>by have:=T B f;have:=h0.next;omega,fun B f=>(a.kb B f).2.2,fun B f=>(a.vb B f).2.2⟩,_,rfl,rfl,a4⟩
    simp only[vP,eZ,qT t,qY t,qY (j.get a.prs.ok t),a0,Option.map_some,L,K,O,q,a7,and_self]
  .obtain⟨i,q,F,J⟩:=U H (Stp.refl a.prs.ok);have K:rest≠[]:=hr;have L:(AV.str 0 0)=S []:=rfl;refine⟨.agg [.bool false, .nilSlice, .nilSlice, .nilSlice],i, ?_,J,fun h=>absurd h.2.1 hr,_,rfl,rfl,rfl⟩;simp only[vP,eZ,qT t,L,K,Y,q,F,false_and,and_false,ne_eq,not_false_eq_true,hr]
theorem zNi (m n:Nat)(U:100<=n){R f A4:Nat}{t o:AH}{e:TypeId}(s:t.h.get f=some (.cells [.func 173 [.ptr R 0] [], .func 174 [.ptr R 0] []] e 1 false))(z:t.ok)(hR:f≠R)
  {u:Str} {v:AV} {p:List Ptr} (a0:p.length<1000) (K:Nat) (x:RdI R t o u true false .nilSlice .nilSlice v [] [] p) (q:Nat) (a1:K<q):
  ∃H',yF q (kZ (dy (m+1)) n) [.ptr A4 0, .ptr R 0, .slice f 0 2 4, .int .i64 (K:Nat), .int .i64 (0:Nat)] o=some (.exit 0 [.ptr A4 0, .ptr R 0],H')/\ ∃kv v ks p rest,RdI R t H' rest true false kv .nilSlice v ks [] p:=by
 obtain⟨q,rfl⟩: ∃j,q=j+1:=⟨q - 1,by omega⟩;by_cases V:K=0
 .subst V;refine⟨o,y7 ?_,_,_,_,_,_,x⟩;simp only[kZ,eZ,qB]
 .obtain⟨C,a2,W,F⟩:=zB9 (dy m) m x (by simp);have L:=zAk u;obtain⟨Y,a3,Z,y⟩:=BB (dy (m+1)) n U F (by omega);have N:o.h.get f=_:=(x.prs.keep f (z.lt s) hR).trans s;have O:C.h.get f=_:=(F.prs.keep f (z.lt s) hR).trans s;have S:=inner m n (R:=R) (a:= .ptr A4 0) (k:= .int .i64 (K:Nat)) (i:= .int .i64 (0:Nat)) N O ((WO m n R o).trans W) ((zCR m n R C).trans Z) n (by omega);have J:(zCo (wC u true).2.1 (wC u true).2.2 p).2.1=true:=by rw[L];exact zDG _ _
  rw[J]at y;obtain⟨ee,g2⟩:=y.get;have T:((0:Nat):Int)< ((K:Nat):Int):=by omega
  refine⟨Y,y7 ?_,_,_,_,_,_,y⟩;simp(disch:=omega) only[kZ,eZ,T,lnSl,S,uM,qT g2]
theorem RdI.cap {R:Nat}{H0 H:AH}{rest:Str}{a leaf:Bool}{kv f i:AV}{ks vs:List Str}{j:List Ptr}(h:RdI R H0 H rest a leaf kv f i ks vs j):rest.length<=10000:=h.small.1
theorem zIq (m n:Nat)(hn:200000000<=n){H:AH}(W:H.ok)(leaf:Bool)(s:Str):
  ∃v H',f123 (dy (m+1)) n [.bool leaf,S s] H=some (.tuple [v, .int .i64 ((if(Nd.decN ltS leaf s).isSome then 0 else 4:Nat):Int)],H')/\Prs H H'/\(∀nd,Nd.decN ltS leaf s=some nd->ZT H H' v nd)/\ ∃l,v= .agg l/\l.length=4/\qW l=true:=by
 have b9:wY [(0,1),(1,1),(2,1),(3,1)] [.bool false, .nilSlice, .nilSlice, .nilSlice] []=some (.agg [.bool false, .nilSlice, .nilSlice, .nilSlice]):=rfl;have u:Prs H (H.push (.cells [.bool false, .nilSlice, .nilSlice, .nilSlice] 119 1 false)):=(Stp.refl W).push _;have g1:(H.push (.cells [.bool false, .nilSlice, .nilSlice, .nilSlice] 119 1 false)).h.get H.next=some (.cells [.bool false, .nilSlice, .nilSlice, .nilSlice] 119 1 false):=AH.push_get_eq _ _
 have n1:(H.push (.cells [.bool false, .nilSlice, .nilSlice, .nilSlice] 119 1 false)).next=H.next+1:=rfl
 generalize a0:H.push (.cells [.bool false, .nilSlice, .nilSlice, .nilSlice] 119 1 false)=H1 at u g1 n1;have b5: ∀Y,Prs H1 Y-> ∃i,stN 4 (.ptr H.next 0) (.agg [.bool false, .nilSlice, .nilSlice, .nilSlice]) Y=some (qX,i)/\ldN 4 (.ptr H.next 0) i=some (.agg [.bool false, .nilSlice, .nilSlice, .nilSlice])/\Prs H i:=by
  intro Y N;obtain⟨i,t,F,s3,n3⟩:=y9 N.ok (N.get u.ok g1) (l':=[.bool false, .nilSlice, .nilSlice, .nilSlice]) rfl rfl;exact⟨i,t,by rw[qY F];rfl,(u.trans N).fresh s3 (fun B O=>by omega)⟩
 by_cases b6:s.length<=500
 .have U: ¬((500:Nat):Int)< ((s.length:Nat):Int):=by omega
  have a5:wY [(0,1),(1,1),(2,1),(3,1)] [.bool false, .nilSlice, .nilSlice, .nilSlice] [(0, .bool leaf)]=some (.agg [.bool leaf, .nilSlice, .nilSlice, .nilSlice]):=rfl;have a6:wY [(0,1),(1,1),(2,4)] [.str 0 0, .bool false, .bool false, .nilSlice, .nilSlice, .nilSlice] [(0,S s),(2, .agg [.bool leaf, .nilSlice, .nilSlice, .nilSlice])]=some (.agg [S s, .bool false, .bool leaf, .nilSlice, .nilSlice, .nilSlice]):=rfl;have N:Prs H1 (H1.push (.cells [S s, .bool false, .bool leaf, .nilSlice, .nilSlice, .nilSlice] 285 1 false)):=(Stp.refl u.ok).push _;have g2:(H1.push (.cells [S s, .bool false, .bool leaf, .nilSlice, .nilSlice, .nilSlice] 285 1 false)).h.get H1.next=some (.cells [S s, .bool false, .bool leaf, .nilSlice, .nilSlice, .nilSlice] 285 1 false):=AH.push_get_eq _ _
  have n2:(H1.push (.cells [S s, .bool false, .bool leaf, .nilSlice, .nilSlice, .nilSlice] 285 1 false)).next=H1.next+1:=rfl
  generalize a7:H1.push (.cells [S s, .bool false, .bool leaf, .nilSlice, .nilSlice, .nilSlice] 285 1 false)=Y at N g2 n2;have c1:RdI H1.next Y Y s false leaf .nilSlice .nilSlice .nilSlice [] [] []:=⟨Stp.refl N.ok,⟨_,g2⟩,Own.nil _ _ _,Own.nil _ _ _,Own.nil _ _ _,fun B O=>(Blk.nil.1 O).elim,fun B O=>(Blk.nil.1 O).elim,fun B O=>(Blk.nil.1 O).elim,by omega,by simp,by simp,by simp⟩
  obtain⟨i,t,q⟩:=UH (dy (m+1)) n c1 2;obtain⟨d2,F⟩:=q.get;have b1:Prs H1 i:=N.fresh q.prs (fun B O=>by omega);by_cases h2:s.length<2
  .have J:jE s false 2=([],s,true):=by simp[jE,h2]
   rw[J]at t q F;simp only at t q F;obtain⟨x,e4,l4,C⟩:=b5 i b1;have hd:Nd.decN ltS leaf s=none:=by simp only[Nd.decN];rw[if_neg (by omega)]
   refine⟨.agg [.bool false, .nilSlice, .nilSlice, .nilSlice],x, ?_,C,(fun nd h=>by rw[hd]at h;cases h),_,rfl,rfl,rfl⟩;rw[hd];simp only[f123,eZ,yU W,a0,U,a5,a6,yU u.ok,a7,t,qT F,b9,e4,l4,Option.isSome_none]
  .have J:jE s false 2=(s.take 2,s.drop 2,false):=by simp[jE,h2]
   rw[J]at t q F;simp only at t q F;obtain⟨a,b,b2,hK⟩:=head2 (s:=s) (by omega);have ha:a.toNat<256:=a.toNat_lt;have hb:b.toNat<256:=b.toNat_lt;have Z:=KA (s.take 2) .i64 (z:=((0:Nat):Int)) (by omega) (by simp;omega);have x1:=KA (s.take 2) .i64 (z:=((1:Nat):Int)) (by omega) (by simp;omega);simp only[b2]at Z x1
   replace Z:uW (S (s.take 2)) (.int .i64 ((0:Nat):Int))=some (.int .u8 ((a.toNat:Nat):Int)):=by rw[b2];exact Z
   replace x1:uW (S (s.take 2)) (.int .i64 ((1:Nat):Int))=some (.int .u8 ((b.toNat:Nat):Int)):=by rw[b2];exact x1
   have wa:IntKind.wrap .i64 ((a.toNat:Nat):Int)=((a.toNat:Nat):Int):=wrap_i64 (by omega) (by omega);have wb:IntKind.wrap .i64 ((b.toNat:Nat):Int)=((b.toNat:Nat):Int):=wrap_i64 (by omega) (by omega);have a8:=zEj .i64 .u64 ((a.toNat:Nat):Int) (s:=8) (by decide);rw[show IntKind.wrap .i64 (((a.toNat:Nat):Int)*2 ^ 8)=((a.toNat*256:Nat):Int)from by rw[wrap_i64 (by omega) (by omega)];omega]at a8;have a1:=zCV ha hb;rw[<-hK]at a1;have c2:bee (s.take 2)<65536:=by omega
   generalize a2:bee (s.take 2)=K at a1 c2 hK;have b3: ∀(f g:FuncId) (xs ys:List AV),d7 1 1 2 [.nilFunc] [(0, .func f xs []),(1, .func g ys [])]=some (.cells [.func f xs [], .func g ys []] 1 1 false,fun A=> .slice A 0 2 4):=fun _ _ _ _=>rfl
   have C:Prs i (i.push (.cells [.func 173 [.ptr H1.next 0] [], .func 174 [.ptr H1.next 0] []] 1 1 false)):=(Stp.refl q.prs.ok).push _
   have g4:(i.push (.cells [.func 173 [.ptr H1.next 0] [], .func 174 [.ptr H1.next 0] []] 1 1 false)).h.get i.next=some (.cells [.func 173 [.ptr H1.next 0] [], .func 174 [.ptr H1.next 0] []] 1 1 false):=AH.push_get_eq _ _
   have n4:(i.push (.cells [.func 173 [.ptr H1.next 0] [], .func 174 [.ptr H1.next 0] []] 1 1 false)).next=i.next+1:=rfl
   generalize b4:i.push (.cells [.func 173 [.ptr H1.next 0] [], .func 174 [.ptr H1.next 0] []] 1 1 false)=x at C g4 n4
   have n3:=q.prs.next
   have d1:(s.drop 2).length=s.length - 2:=by simp
   have a3: ∀(Hp o:AH) (rest:Str) (a9:Bool) (kv vv pv:AV) (ks vs:List Str) (T:List Ptr),RdI H1.next Hp o rest a9 leaf kv vv pv ks vs T->Prs H1 Hp->(a9=true\/small ⟨leaf,ks,vs,T⟩)->
     (Nd.decN ltS leaf s=if a9=false/\rest=[]/\Nd.may ltS ⟨leaf,ks,vs,T⟩=true then some ⟨leaf,ks,vs,T⟩else none)->
     f123 (dy (m+1)) n [.bool leaf,S s] H=gP (vP (dy (m+1)) n [.ptr H.next 0, .ptr H1.next 0] o)->
     ∃v H',f123 (dy (m+1)) n [.bool leaf,S s] H=some (.tuple [v, .int .i64 ((if(Nd.decN ltS leaf s).isSome then 0 else 4:Nat):Int)],H')/\Prs H H'/\(∀nd,Nd.decN ltS leaf s=some nd->ZT H H' v nd)/\ ∃l,v= .agg l/\l.length=4/\qW l=true:=by
    intro Hp o rest a9 kv vv pv ks vs T hI hp c3 b7 L;obtain⟨v,H',e,p,c4,l⟩:=zPL (dy (m+1)) n hn (A4:=H.next) hI ⟨_,_,rfl,hp.get u.ok g1⟩ (by omega) hp.ok (u.trans hp) (by omega) (Nat.le_refl _) c3
    refine⟨v,H', ?_,p, ?_,l⟩
    .rw[L,e,b7];split<;>rfl
    .intro nd a4;rw[b7]at a4;split at a4
     .rename_i hc;simp only[zB]at a4;subst a4;exact c4 hc
     .cases a4
   cases leaf with
   | true=>
    have p5:Prs x (x.push (.cells [.func 173 [.ptr H1.next 0] [], .func 175 [.ptr H1.next 0] []] 1 1 false)):=(Stp.refl C.ok).push _
    have g5:(x.push (.cells [.func 173 [.ptr H1.next 0] [], .func 175 [.ptr H1.next 0] []] 1 1 false)).h.get x.next=some (.cells [.func 173 [.ptr H1.next 0] [], .func 175 [.ptr H1.next 0] []] 1 1 false):=AH.push_get_eq _ _
    generalize c5:x.push (.cells [.func 173 [.ptr H1.next 0] [], .func 175 [.ptr H1.next 0] []] 1 1 false)=H5 at p5 g5
    have V:=q.base (C.trans p5);obtain⟨o,e9,kv,vv,ks,vs,rest,j⟩:=zPf m n (by omega) (A4:=H.next) g5 p5.ok (by omega) K (by omega) V n (by omega)
    have L:f123 (dy (m+1)) n [.bool true,S s] H=gP (vP (dy (m+1)) n [.ptr H.next 0, .ptr H1.next 0] o):=by
     simp(disch:=omega) only[f123,eZ,yU W,a0,U,a5,a6,yU u.ok,a7,t,qT F,b3,yU q.prs.ok,b4,yU C.ok,c5,Y7,Z,x1,wa,wb,a8,a1,e9]
    have b8:Prs H1 H5:=(b1.trans C).trans p5
    cases hd:YN K (s.drop 2)with
    | none=>
     rw[hd]at j;exact a3 H5 o _ _ _ _ _ _ _ _ j b8 (.inl rfl) (by simp only[Nd.decN,Nd.decB,a2,hd];simp) L
    | some y=>
     obtain⟨y1,y2,y3⟩:=y;rw[hd]at j;obtain⟨rfl,rfl,rfl,j⟩:=j;obtain⟨q1,q2,q3⟩:=Nd.decL_eq hd;have hq:=congrArg List.length q1;rw[zL,Nd.encL_length _ _ (by omega)]at hq;exact a3 H5 o _ _ _ _ _ _ _ _ j b8 (.inr ⟨by simp,by simp;omega,by simp;omega⟩) (by simp only[Nd.decN,Nd.decB,a2,hd];rw[if_pos ⟨b6,by omega⟩];simp) L
   | false=>
    have c6:=q.base C;obtain⟨H5,pv,e5,V⟩:=BB (dy (m+1)) n (by omega) c6 (by simp);have b0:Prs H1 x:=b1.trans C
    cases J:uR (s.drop 2)with
    | none=>
     have c7:=zB6 [] J;rw[c7]at V;have c8:(zCo (s.drop 2) false []).2.2.length<1000:=by
      simp only[zCo];split
      .simp
      .split<;>simp
     obtain⟨o,e9,kv,c9,ks,T,rest,j⟩:=zNi m n (by omega) (A4:=H.next) g4 C.ok (by omega) c8 K V n (by omega)
     have L:f123 (dy (m+1)) n [.bool false,S s] H=gP (vP (dy (m+1)) n [.ptr H.next 0, .ptr H1.next 0] o):=by
      simp(disch:=omega) only[f123,eZ,yU W,a0,U,a5,a6,yU u.ok,a7,t,qT F,b3,yU q.prs.ok,b4,e5,Y7,Z,x1,wa,wb,a8,a1,e9]
     exact a3 x o _ _ _ _ _ _ _ _ j b0 (.inl rfl) (by simp only[Nd.decN,Nd.decB,a2,J];simp) L
    | some y=>
     obtain⟨p0,r0⟩:=y;rw[zB5 [] J]at V;obtain⟨d0,_,_⟩:=Nd.takeP_eq J;have c0:=congrArg List.length d0;rw[zL,Nd.encP_length]at c0;obtain⟨o,e9,kv,c9,ks,T,rest,j⟩:=zPg m n (by omega) (A4:=H.next) g4 C.ok (by omega) K (by omega) V n (by omega)
     have L:f123 (dy (m+1)) n [.bool false,S s] H=gP (vP (dy (m+1)) n [.ptr H.next 0, .ptr H1.next 0] o):=by
      simp(disch:=omega) only[f123,eZ,yU W,a0,U,a5,a6,yU u.ok,a7,t,qT F,b3,yU q.prs.ok,b4,e5,Y7,Z,x1,wa,wb,a8,a1,e9]
     cases hd:YO K r0 with
     | none=>
      rw[hd]at j;exact a3 x o _ _ _ _ _ _ _ _ j b0 (.inl rfl) (by simp only[Nd.decN,Nd.decB,a2,J,hd];simp) L
     | some y=>
      obtain⟨y1,y2,y3⟩:=y;rw[hd]at j;obtain⟨rfl,rfl,rfl,j⟩:=j;obtain⟨q1,q2,q3,_⟩:=Nd.decI_eq hd;have hq:=congrArg List.length q1;rw[zL,Nd.encI_length _ _ (by omega)]at hq;exact a3 x o _ _ _ _ _ _ _ _ j b0 (.inr ⟨by simp;omega,by simp;omega,by simp[Nd.sumL]⟩) (by simp only[Nd.decN,Nd.decB,a2,J,hd];rw[if_pos ⟨b6,by omega⟩];simp) L
 .have U:((500:Nat):Int)< ((s.length:Nat):Int):=by omega
  obtain⟨i,t,l3,p3⟩:=b5 H1 (Stp.refl u.ok);have hd:Nd.decN ltS leaf s=none:=by simp only[Nd.decN];rw[if_neg (by omega)]
  refine⟨.agg [.bool false, .nilSlice, .nilSlice, .nilSlice],i, ?_,p3,(fun nd h=>by rw[hd]at h;cases h),_,rfl,rfl,rfl⟩;rw[hd];simp only[f123,eZ,yU W,a0,U,b9,t,l3,Option.isSome_none]
open Go.Nd (sumL)
theorem ZS (x:Bool)(a b c:AV)(f:isCell a=true)(hb:isCell b=true)(h:isCell c=true):qW [.bool x,a,b,c]=true:=by
 simp only[qW,f,hb,h];rfl
theorem yV.zero (k e:Nat){H:AH}{A:Nat}{a:TypeId}{g:Bool}(h:H.h.get A=some (.cells [] a k g))(f:H.ok):yV k e H (.slice A 0 0 0) 0 []:= .inr ⟨by simp,A,a,g,rfl,f.lt h,h,rfl⟩
theorem zBN (b:Bool):aveq (.bool b) (.bool b)=true:=by cases b<;>rfl
theorem wH (l:List Str):qW (l.map S)=true:=by
 rw[jC];intro x a;obtain⟨s,_,rfl⟩:=List.mem_map.1 a;rfl
theorem v6 (l:List Ptr):qW (l.flatMap qZ)=true:=by
 rw[jC];intro x a;obtain⟨p,_,hp⟩:=List.mem_flatMap.1 a;simp only[qZ,List.mem_cons,List.not_mem_nil,or_false]at hp;rcases hp with rfl | rfl | rfl<;>rfl
theorem Rw.blk {k n:Nat}{H:AH}{v:AV}{l:List AV}(h:Rw k H v n l){B:Nat}(a:Blk v B):B<H.next:=by
 obtain⟨_,⟨rfl,_⟩ | ⟨rfl,_⟩ | ⟨A,off,cc,c,e,sz,g,rfl,_,f,_⟩⟩:=h
 .exact(Blk.nil.1 a).elim
 .obtain⟨_,_,_,h⟩:=a;cases h
 .rw[Blk.slice.1 a];exact f
def yE (H:AH)(v:AV)(nd:Nd.Node):Prop:= ∃ks vs a,v= .agg [.bool nd.leaf,ks,vs,a]/\yV 1 9 H ks nd.keys.length (nd.keys.map S)/\yV 1 9 H vs nd.vals.length (nd.vals.map S)/\yV 3 42 H a nd.kids.length (nd.kids.flatMap qZ)
theorem yE.node {H:AH}{v:AV}{nd:Nd.Node}(h:yE H v nd):bE H v nd:=by
 obtain⟨ks,vs,a,e,f,i,j⟩:=h;exact⟨ks,vs,a,e,f.row,i.row,j.row⟩
theorem yE.prs {H H':AH}{v:AV}{nd:Nd.Node}(h:yE H v nd)(s:Prs H H'):yE H' v nd:=by
 obtain⟨ks,vs,a,e,f,i,j⟩:=h;exact⟨ks,vs,a,e,f.mono s (fun _ _ x=>x),i.mono s (fun _ _ x=>x),j.mono s (fun _ _ x=>x)⟩
theorem Own.st {k e n:Nat}{H:AH}{v:AV}{l:List AV}(h:Own k e H v n l)(m:H.ok)(j:0<k){i:Nat}(hi:i<n){x:AV}(a:(y6 x).length=k)(o:qW (y6 x)=true):
  ∃p H' l',(∀κ (z:Int),z=(i:Int)->hU k v (.int κ z)=some p)/\stN k p x H=some (qX,H')/\Own k e H' v n l'/\Stp (Blk v) H H':=by
 obtain⟨u,⟨_,rfl⟩ | ⟨A,rfl,f,q⟩⟩:=h
 .omega
 .have t:i*k+k<=n*k:=by rw[<-Nat.succ_mul];exact qF _ hi
  have hb:Nat.blt i n=true:=by rw[zR];exact hi
  refine⟨.ptr A (0+i*k),_,_,fun κ z s=> ?_,JL q j a o (by omega),⟨?_, .inr ⟨A,rfl,f,by rw[AH.put_get,if_pos rfl]⟩⟩,(Stp.refl m).put f _ (.inr (Blk.slice.2 rfl))⟩
  .subst s;simp only[hU,yK κ (show(0:Int)<=(i:Int)by omega),qA,hb,cond_true,yG]
  .simp only[zL,zQ,zV,a];omega
theorem zPW (x:Nat):Nat.ble 0 x=true:=by rw[q9];omega
theorem UO {k e n:Nat}{H:AH}{v:AV}{l:List AV}(h:yV k e H v n l)(t:0<k){i:Nat}(hi:i<=n)(κ x:IntKind):
  ∃r,wR k v none (some (.int κ (i:Nat))) (some (.int x (i:Nat))) H=some r/\Rw k H r i (l.take (i*k))/\(0<i->r≠ .nilSlice/\r≠ .emptySl):=by
 have f:=yK κ (z:=((i:Nat):Int)) (by omega);have j:=yK x (z:=((i:Nat):Int)) (by omega);simp only[qA]at f j;have hb:Nat.blt 0 k=true:=by rw[zR];exact t
 have y:Nat.beq i 0=decide (i=0):=by rw[Bool.eq_iff_iff];simp
 have u:i*k<=n*k:=qF _ hi;have b1:Nat.ble i n=true:=by rw[q9];exact hi
 have b2:Nat.ble i i=true:=by rw[q9];exact Nat.le_refl _
 have J:Nat.ble 0 i=true:=by rw[q9];omega
 rcases h with⟨q,⟨rfl,rfl⟩ | ⟨A,rfl,p,a⟩⟩ | ⟨q,A,C,g,rfl,p,a,F⟩
 .obtain rfl:i=0:=by omega
  exact⟨.nilSlice,by simp only[wR,yZ,f,j];simp,⟨by simp, .inl ⟨rfl,rfl⟩⟩,fun h=>absurd h (by omega)⟩
 .have m:yN l true k 0 1 k=n:=by
   simp only[yN,show((1 % 2).beq 0)=false from rfl,cond_false,Nat.beq_refl,show Nat.beq 0 (1 / 2*k)=true from by simp,Bool.and_self,cond_true,yA,q,Nat.sub_zero];exact Nat.mul_div_cancel _ t
  by_cases o:i=0
  .subst o;refine⟨.slice A 0 0 0, ?_,⟨by simp, .inr (.inr ⟨A,0,0,l,e,k,true,rfl,a,p,by simp,by simp⟩)⟩,fun h=>absurd h (by omega)⟩;simp only[wR,yZ,f,j,a,hb,cond_true];simp[YQ,m,yG,zPW]
  .have s:Nat.beq i 0=false:=by rw[y];simpa using o
   refine⟨.slice A 0 i (2*i), ?_,⟨by rw[zQ,q,Nat.min_eq_left u], .inr (.inr ⟨A,0,2*i,l,e,k,true,rfl,a,p,by omega,by simp⟩)⟩,fun _=>⟨by simp,by simp⟩⟩;simp only[wR,yZ,f,j,a,hb,cond_true];simp[YQ,m,b1,b2,s,yG,zPW]
 .have m:yN l g k 0 (2*n) k=n:=by
   simp only[yN,show((2*n) % 2).beq 0=true by rw[Nat.mul_mod_right];rfl,cond_true,Nat.mul_div_cancel_left n (show 0<2 by omega)]
  by_cases o:i=0
  .subst o;refine⟨.slice A 0 0 0, ?_,⟨by simp, .inr (.inr ⟨A,0,0,l,C,k,g,rfl,a,p,by simp,by simp⟩)⟩,fun h=>absurd h (by omega)⟩;simp only[wR,yZ,f,j,a,hb,cond_true];simp[YQ,m,yG,zPW]
  .have s:Nat.beq i 0=false:=by rw[y];simpa using o
   refine⟨.slice A 0 i (2*i), ?_,⟨by rw[zQ,q,Nat.min_eq_left u], .inr (.inr ⟨A,0,2*i,l,C,k,g,rfl,a,p,by omega,by simp⟩)⟩,fun _=>⟨by simp,by simp⟩⟩;simp only[wR,yZ,f,j,a,hb,cond_true];simp[YQ,m,b1,b2,s,yG,zPW]
theorem Q1 {k e n:Nat}{H:AH}{v:AV}{l:List AV}(h:yV k e H v n l)(q:0<k){i:Nat}(hi:i<n)(κ:IntKind):
  ∃r,wR k v (some (.int κ (i:Nat))) none none H=some r/\Rw k H r (n - i) (l.drop (i*k))/\r≠ .nilSlice/\r≠ .emptySl:=by
 have o:=yK κ (z:=((i:Nat):Int)) (by omega);simp only[qA]at o;have hb:Nat.blt 0 k=true:=by rw[zR];exact q
 have F:i*k<=n*k:=qF _ (by omega);have m:(n - i)*k=n*k - i*k:=Nat.sub_mul _ _ _;have b1:Nat.ble n n=true:=by rw[q9];exact Nat.le_refl _
 have b2:Nat.ble i n=true:=by rw[q9];omega
 have y:Nat.blt i n=true:=by rw[zR];exact hi
 have t:Nat.beq n i=false:=by rw[Bool.eq_false_iff];intro h;have:=Nat.eq_of_beq_eq_true h;omega
 rcases h with⟨a,⟨rfl,rfl⟩ | ⟨A,rfl,p,f⟩⟩ | ⟨a,A,C,g,rfl,p,f,J⟩
 .omega
 .have j:yN l true k 0 1 k=n:=by
   simp only[yN,show((1 % 2).beq 0)=false from rfl,cond_false,Nat.beq_refl,show Nat.beq 0 (1 / 2*k)=true from by simp,Bool.and_self,cond_true,yA,a,Nat.sub_zero];exact Nat.mul_div_cancel _ q
  by_cases s:i=0
  .subst s;refine⟨.slice A 0 n 1, ?_,⟨by simp[a], .inr (.inr ⟨A,0,1,l,e,k,true,by simp,f,p,by simp[a],by rw[Nat.sub_zero,Nat.zero_mul,List.drop_zero,zP (by omega)]⟩)⟩,by simp,by simp⟩;simp only[wR,yZ,o,f,hb,cond_true];simp[YQ,j,b1,yG,zPW,show Nat.beq 1 0=false from rfl]
  .have u:Nat.beq i 0=false:=by rw[Bool.eq_false_iff];intro h;exact s (Nat.eq_of_beq_eq_true h)
   refine⟨.slice A (0+i*k) (n - i) (1+2*i), ?_,⟨by simp[a,m], .inr (.inr ⟨A,0+i*k,1+2*i,l,e,k,true,rfl,f,p,by omega,by rw[Nat.zero_add,zP (by simp[a,m])]⟩)⟩,by simp,by simp⟩;simp only[wR,yZ,o,f,hb,cond_true];simp[YQ,j,b1,b2,y,u,yG,show Nat.beq 1 0=false from rfl]
 .have j:yN l g k 0 (2*n) k=n:=by
   simp only[yN,show((2*n) % 2).beq 0=true by rw[Nat.mul_mod_right];rfl,cond_true,Nat.mul_div_cancel_left n (show 0<2 by omega)]
  have x:Nat.beq (2*n / 2) i=false:=by rw[Nat.mul_div_cancel_left n (show 0<2 by omega)];exact t
  refine⟨.slice A (0+i*k) (n - i) (2*(2*n / 2 - i)), ?_,⟨by simp[a,m], .inr (.inr ⟨A,0+i*k,2*(2*n / 2 - i),l,C,k,g,rfl,f,p,by omega,by rw[Nat.zero_add,zP (by simp[a,m])]⟩)⟩,by simp,by simp⟩;simp only[wR,yZ,o,f,hb,cond_true];simp[YQ,j,b1,b2,x,yG,t]
theorem ZN (D:Dyn)(n:Nat){H:AH}(j:H.ok){v:AV}{l:List Str}(h:Strs H v l)(s:v≠ .nilSlice)(t:v≠ .emptySl)(hl:l.length<=1000000000):
  ∃a H',f108 D n [v] H=some (a,H')/\Prs H H'/\yV 1 9 H' a l.length (l.map S)/\ ∀B,Blk a B->H.next<=B:=by
 have f:Prs H (H.push (.cells [] 9 1 false)):=(Stp.refl j).push _;have m:(H.push (.cells [] 9 1 false)).h.get H.next=some (.cells [] 9 1 false):=AH.push_get_eq _ _
 have u:(H.push (.cells [] 9 1 false)).next=H.next+1:=rfl
 generalize o:H.push (.cells [] 9 1 false)=H1 at f m u;obtain⟨a,x,y,z,C,F⟩:=(yV.zero 1 9 m f.ok).app (bytes:=16) f.ok (by decide) (Rw.srcOf (h.prs f)) (by simp) (wH _) (by omega) (by decide);have p:d7 9 1 0 [.str 0 0] []=some (.cells [] 9 1 false,fun A=> .slice A 0 0 0):=rfl;have q:bW .eql (eqS v .nilSlice)=some (.bool false):=by
  obtain⟨_,⟨rfl,_⟩ | ⟨rfl,_⟩ | ⟨A,off,cc,c,e,sz,g,rfl,_⟩⟩:=h
  .exact absurd rfl s
  .exact absurd rfl t
  .rfl
 refine⟨a,x, ?_,f.fresh C (fun B i=>by rw[Blk.slice.1 i];exact Nat.le_refl _),by simpa using z,fun B i=> ?_⟩
 .simp only[f108,eZ,q,p,yU j,o,y]
 .rcases F B i with h | h
  .rw[Blk.slice.1 h];exact Nat.le_refl _
  .omega
theorem WJ (D:Dyn)(n:Nat){H:AH}(m:H.ok){v:AV}{l:List Ptr}(h:u4 H v l)(t:v≠ .nilSlice)(u:v≠ .emptySl)(hl:l.length<=1000000000):
  ∃f H',f81 D n [v] H=some (f,H')/\Prs H H'/\yV 3 42 H' f l.length (l.flatMap qZ)/\ ∀B,Blk f B->H.next<=B:=by
 have i:Prs H (H.push (.cells [] 42 3 false)):=(Stp.refl m).push _;have o:(H.push (.cells [] 42 3 false)).h.get H.next=some (.cells [] 42 3 false):=AH.push_get_eq _ _
 have x:(H.push (.cells [] 42 3 false)).next=H.next+1:=rfl
 generalize p:H.push (.cells [] 42 3 false)=H1 at i o x;obtain⟨f,y,z,C,F,J⟩:=(yV.zero 3 42 o i.ok).app (bytes:=24) i.ok (by decide) (Rw.srcOf (h.prs i)) h.1 (v6 _) (by omega) (by decide);have q: ∀a b c:AV,d7 42 3 0 [a,b,c] []=some (.cells [] 42 3 false,fun A=> .slice A 0 0 0):=fun _ _ _=>rfl
 have s:bW .eql (eqS v .nilSlice)=some (.bool false):=by
  obtain⟨_,⟨rfl,_⟩ | ⟨rfl,_⟩ | ⟨A,off,cc,c,e,sz,g,rfl,_⟩⟩:=h
  .exact absurd rfl t
  .exact absurd rfl u
  .rfl
 refine⟨f,y, ?_,i.fresh F (fun B j=>by rw[Blk.slice.1 j];exact Nat.le_refl _),by simpa using C,fun B j=> ?_⟩
 .simp only[f81,eZ,s,q,yU m,p,z]
 .rcases J B j with h | h
  .rw[Blk.slice.1 h];exact Nat.le_refl _
  .omega
open Go.Nd (cutOk)
def vY (nd:Nd.Node):Prop:=2<=nd.keys.length/\(nd.leaf=true\/3<=nd.keys.length)
def hbnd (nd:Nd.Node)(k:Nat):Prop:=
 (k=1\/Nd.size (Nd.cutA nd k)<=(Nd.size nd - 2) / 2+2)/\(k+(if nd.leaf then 1 else 2)=nd.keys.length\/(Nd.size nd - 2) / 2+2<Nd.size (Nd.cutA nd (k+1)))
theorem JH (l:List Str){i:Nat}(h:i<l.length):sumL (l.take (i+1))=sumL (l.take i)+(1+(l[i]).length):=by
 rw[zU h,Nd.sumL_append,Nd.sumL_cons];rfl
theorem size_leaf {nd:Nd.Node}(hl:nd.leaf=true)(a:nd.vals.length=nd.keys.length){i:Nat}(h:i<nd.keys.length):Nd.size (Nd.cutA nd (i+1))=Nd.size (Nd.cutA nd i)+(1+(nd.keys[i]).length)+(1+(nd.vals[i]'(by omega)).length):=by
 simp only[Nd.cutA,hl,if_true,Nd.size,JH nd.keys h,JH nd.vals (i:=i) (by omega)];omega
theorem size_inner {nd:Nd.Node}(hl:nd.leaf=false)(a:nd.kids.length=nd.keys.length+1){i:Nat}(h:i<nd.keys.length):Nd.size (Nd.cutA nd (i+1))=Nd.size (Nd.cutA nd i)+(1+(nd.keys[i]).length)+16:=by
 simp only[Nd.cutA,hl,Bool.false_eq_true,if_false,Nd.size,JH nd.keys h,zQ];omega
theorem UQ (nd:Nd.Node):2<=Nd.size nd:=by simp only[Nd.size];omega
theorem zDL (D:Dyn)(n:Nat){H:AH}{ks vs T:AV}{nd:Nd.Node}(U:Strs H ks nd.keys)(V:Strs H vs nd.vals)(f:nd.leaf=true->nd.vals.length=nd.keys.length)(hp:nd.leaf=false->nd.kids.length=nd.keys.length+1){A:Nat}{e:TypeId}(o:H.h.get A=some (.cells [.bool nd.leaf,ks,vs,T] e 1 false))
  (most:Nat) (L:Nat) (hL:L<=nd.keys.length) (hb:nd.keys.length<=1000000000) (s:Nd.size nd<=1000000000) (u:Nat) (W:L<u):
  Fin (yF u (uK D n) [.ptr A 0, .int .i64 (most:Nat), .int .i64 (L:Nat), .int .i64 ((Nd.size (Nd.cutA nd 0) - 2:Nat):Int), .int .i64 (L:Nat), .int .i64 (0:Nat)] H) fun x H'=>H'=H/\((∃j:Nat,0<j/\j<L/\x= .ret (.int .i64 (j:Nat))/\(j=1\/Nd.size (Nd.cutA nd j)<=most+2)/\most+2<Nd.size (Nd.cutA nd (j+1)))\/(x= .exit 0 [.int .i64 (L:Nat)]/\(L<=1\/Nd.size (Nd.cutA nd L)<=most+2))):=by
 refine Fin.loop (fun k y H'=>H'=H/\ ∃(i:Nat),y=[.ptr A 0, .int .i64 (most:Nat), .int .i64 (L:Nat), .int .i64 ((Nd.size (Nd.cutA nd i) - 2:Nat):Int), .int .i64 (L:Nat), .int .i64 (i:Nat)]/\i<=L/\k=L - i/\(i<=1\/Nd.size (Nd.cutA nd i)<=most+2)) ?_ u L _ H ⟨rfl,0,rfl,by omega,by omega, .inl (by omega)⟩ W
 rintro k y H' ⟨rfl,i,rfl,hi,rfl,J⟩
 by_cases K:i<L
 .have a:i<nd.keys.length:=by omega
  obtain⟨p,z,C⟩:=U.at a;have m:((i:Nat):Int)< ((L:Nat):Int):=by omega
  have z2:=UQ (Nd.cutA nd i);have a0:=UQ (Nd.cutA nd (i+1));have v:Fin (vN D n [.ptr A 0, .int .i64 (most:Nat), .int .i64 (L:Nat), .int .i64 ((Nd.size (Nd.cutA nd (i+1)) - 2:Nat):Int), .int .i64 (i:Nat), .int .i64 (L:Nat), .int .i64 (i:Nat)] H')
    (orN (fun N t=> ∃k',k'<L - i/\t=H'/\ ∃(i:Nat),N=[.ptr A 0, .int .i64 (most:Nat), .int .i64 (L:Nat), .int .i64 ((Nd.size (Nd.cutA nd i) - 2:Nat):Int), .int .i64 (L:Nat), .int .i64 (i:Nat)]/\i<=L/\k'=L - i/\(i<=1\/Nd.size (Nd.cutA nd i)<=most+2))
     (fun x t=>t=H'/\((∃j:Nat,0<j/\j<L/\x= .ret (.int .i64 (j:Nat))/\(j=1\/Nd.size (Nd.cutA nd j)<=most+2)/\most+2<Nd.size (Nd.cutA nd (j+1)))\/(x= .exit 0 [.int .i64 (L:Nat)]/\(L<=1\/Nd.size (Nd.cutA nd L)<=most+2))))):=by
   by_cases F:0<i/\most<Nd.size (Nd.cutA nd (i+1)) - 2
   .have c1:((0:Nat):Int)< (i:Int):=by omega
    have c2:((most:Nat):Int)< ((Nd.size (Nd.cutA nd (i+1)) - 2:Nat):Int):=by omega
    have:vN D n [.ptr A 0, .int .i64 (most:Nat), .int .i64 (L:Nat), .int .i64 ((Nd.size (Nd.cutA nd (i+1)) - 2:Nat):Int), .int .i64 (i:Nat), .int .i64 (L:Nat), .int .i64 (i:Nat)] H'=some (.ret (.int .i64 (i:Nat)),H'):=by
     simp(disch:=omega) only[vN,eZ,c1,c2]
    rw[this];exact⟨_,_,rfl,rfl, .inl ⟨i,F.1,K,rfl,by omega,by omega⟩⟩
   .have O:(decide (((0:Nat):Int)< (i:Int))&&decide (((most:Nat):Int)< ((Nd.size (Nd.cutA nd (i+1)) - 2:Nat):Int)))=false:=by
     rw[Bool.eq_false_iff];intro Y;simp only[zC,zJ]at Y;exact F ⟨by omega,by omega⟩
    have:vN D n [.ptr A 0, .int .i64 (most:Nat), .int .i64 (L:Nat), .int .i64 ((Nd.size (Nd.cutA nd (i+1)) - 2:Nat):Int), .int .i64 (i:Nat), .int .i64 (L:Nat), .int .i64 (i:Nat)] H'=some (.norm [.ptr A 0, .int .i64 (most:Nat), .int .i64 (L:Nat), .int .i64 ((Nd.size (Nd.cutA nd (i+1)) - 2:Nat):Int), .int .i64 (L:Nat), .int .i64 ((i+1:Nat):Int)],H'):=by
     simp(disch:=omega) only[vN,eZ,O,Int.natCast_add]
    rw[this];exact⟨_,_,rfl,L - (i+1),by omega,rfl,i+1,rfl,by omega,rfl,by omega⟩
  have a1:Nd.size (Nd.cutA nd i)<=1000000002:=by
   have t1:=Nd.sumL_take_le nd.keys i;have t2:=Nd.sumL_take_le nd.vals i;have:Nd.size nd=2+16*nd.kids.length+sumL nd.keys+sumL nd.vals:=rfl;have Z:sumL []=0:=rfl;simp only[Nd.cutA];split<;>simp only[Nd.size,qD,zQ,Z]<;>omega
  have a2:(nd.keys[i]).length<=1000000000:=by
   have:=Nd.sumL_drop_le nd.keys i;rw[zX a,Nd.sumL_cons]at this;have:Nd.size nd=2+16*nd.kids.length+sumL nd.keys+sumL nd.vals:=rfl;omega
  cases hl:nd.leaf with
  | true=>
   rw[hl]at o;obtain⟨q,q1,q2⟩:=V.at (i:=i) (by rw[f hl];exact a);have hs:=size_leaf hl (f hl) a;have a3:(nd.vals[i]'(by rw[f hl];exact a)).length<=1000000000:=by
    have:=Nd.sumL_drop_le nd.vals i;rw[zX (by rw[f hl];exact a),Nd.sumL_cons]at this;have:Nd.size nd=2+16*nd.kids.length+sumL nd.keys+sumL nd.vals:=rfl;omega
   have s:((Nd.size (Nd.cutA nd (i+1)) - 2:Nat):Int)=((Nd.size (Nd.cutA nd i) - 2:Nat):Int)+(((1:Nat):Int)+(((nd.keys[i]).length:Nat):Int))+(((1:Nat):Int)+(((nd.vals[i]'(by rw[f hl];exact a)).length:Nat):Int)):=by omega
   have:uK D n [.ptr A 0, .int .i64 (most:Nat), .int .i64 (L:Nat), .int .i64 ((Nd.size (Nd.cutA nd i) - 2:Nat):Int), .int .i64 (L:Nat), .int .i64 (i:Nat)] H'=jn (some (.norm [.ptr A 0, .int .i64 (most:Nat), .int .i64 (L:Nat), .int .i64 ((Nd.size (Nd.cutA nd (i+1)) - 2:Nat):Int), .int .i64 (i:Nat), .int .i64 (L:Nat), .int .i64 (i:Nat)],H')) (vN D n):=by
    rw[s];simp(disch:=omega) only[uK,eZ,m,qT o,z,C,q1,q2]
   rw[this,BE];exact v
  | false=>
   rw[hl]at o;have hs:=size_inner hl (hp hl) a;have s:((Nd.size (Nd.cutA nd (i+1)) - 2:Nat):Int)=((Nd.size (Nd.cutA nd i) - 2:Nat):Int)+(((1:Nat):Int)+(((nd.keys[i]).length:Nat):Int))+((16:Nat):Int):=by omega
   have:uK D n [.ptr A 0, .int .i64 (most:Nat), .int .i64 (L:Nat), .int .i64 ((Nd.size (Nd.cutA nd i) - 2:Nat):Int), .int .i64 (L:Nat), .int .i64 (i:Nat)] H'=jn (some (.norm [.ptr A 0, .int .i64 (most:Nat), .int .i64 (L:Nat), .int .i64 ((Nd.size (Nd.cutA nd (i+1)) - 2:Nat):Int), .int .i64 (i:Nat), .int .i64 (L:Nat), .int .i64 (i:Nat)],H')) (vN D n):=by
    rw[s];simp(disch:=omega) only[uK,eZ,m,qT o,z,C]
   rw[this,BE];exact v
 .have m: ¬((i:Nat):Int)< ((L:Nat):Int):=by omega
  have S:i=L:=by omega
  subst S;refine⟨.exit 0 [.int .i64 (i:Nat)],H', ?_,rfl, .inr ⟨rfl,J⟩⟩;simp only[uK,eZ,m]
theorem zHl (D:Dyn)(n:Nat)(W:200000000<=n){H:AH}(p:H.ok){v:AV}{nd:Nd.Node}(h:bE H v nd)(N:small nd)(y:Nd.shaped ltS nd=true)(Y:vY nd):
  ∃(k:Nat) (H':AH),f227 D n [v] H=some (.int .i64 (k:Nat),H')/\Prs H H'/\cutOk nd k/\hbnd nd k:=by
 have Z:=h;obtain⟨ks,vs,C,rfl,m,O,h3⟩:=h;have a0:=Nd.sumL_ge nd.keys;obtain⟨s1,s2,s3⟩:=id N;obtain⟨c1,c2⟩:=Y;have S:nd.leaf=true->nd.vals.length=nd.keys.length:=by
  intro hl;simp only[Nd.shaped,hl,if_true,zC,zJ]at y;exact y.2.1.1
 have hp:nd.leaf=false->nd.kids.length=nd.keys.length+1:=by
  intro hl;simp only[Nd.shaped,hl,Bool.false_eq_true,if_false,zC,zJ]at y;exact y.2.1.2
 have q:Prs H (H.push (.cells [.bool nd.leaf,ks,vs,C] 119 1 false)):=(Stp.refl p).push _;have T:(H.push (.cells [.bool nd.leaf,ks,vs,C] 119 1 false)).h.get H.next=some (.cells [.bool nd.leaf,ks,vs,C] 119 1 false):=AH.push_get_eq _ _
 generalize i:H.push (.cells [.bool nd.leaf,ks,vs,C] 119 1 false)=H1 at q T;obtain⟨z,H2,o,rfl,U⟩:=JN D n q.ok (Z.prs q) N W;have a:=U.get q.ok T;have P:Prs H H2:=q.trans U;have s:=zL4 .i64 (((Nd.size nd:Nat):Int) - ((2:Nat):Int)) ((2:Nat):Int) (by omega);have L:Nd.size nd<=1000000000:=by simp only[Nd.size];omega
 have a1:=UQ nd;have V:IntKind.wrap .i64 ((((Nd.size nd:Nat):Int) - ((2:Nat):Int)).tdiv ((2:Nat):Int))=(((Nd.size nd - 2) / 2:Nat):Int):=by
  rw[show((Nd.size nd:Nat):Int) - ((2:Nat):Int)=((Nd.size nd - 2:Nat):Int)by omega,Int.tdiv_eq_ediv_of_nonneg (by omega)];rw[wrap_i64 (by omega) (by omega)];omega
 rw[V]at s
 cases hl:nd.leaf with
 | true=>
  obtain⟨x,t,f,rfl,F⟩:=zDL D n (m.prs P) (O.prs P) S hp a ((Nd.size nd - 2) / 2) (nd.keys.length - 1) (by omega) (by omega) L n (by omega);have hL:((nd.keys.length:Nat):Int) - ((1:Nat):Int)=((nd.keys.length - 1:Nat):Int):=by omega
  rw[hl]at a i o;rw[show Nd.size (Nd.cutA nd 0) - 2=0 by simp[Nd.cutA,hl,Nd.size,sumL]]at f;rcases F with⟨j,J,j2,rfl,u,K⟩ | ⟨rfl,u⟩
  .refine⟨j,t, ?_,P,⟨J,by rw[hl];simp only[if_true];omega⟩,u, .inr K⟩;simp(disch:=omega) only[f227,eZ,yU p,i,cG,Option.map_some,hl,o,s,qT a,m.lnSl,hL,ZB,f]
  .refine⟨nd.keys.length - 1,t, ?_,P,⟨by omega,by rw[hl];simp only[if_true];omega⟩,by omega, .inl (by rw[hl];simp only[if_true];omega)⟩;simp(disch:=omega) only[f227,eZ,yU p,i,cG,Option.map_some,hl,o,s,qT a,m.lnSl,hL,ZB,f,Y0]
 | false=>
  have c3:3<=nd.keys.length:=by rcases c2 with h | h;rw[hl]at h;cases h;exact h
  obtain⟨x,t,f,rfl,F⟩:=zDL D n (m.prs P) (O.prs P) S hp a ((Nd.size nd - 2) / 2) (nd.keys.length - 2) (by omega) (by omega) L n (by omega);have hL:((nd.keys.length:Nat):Int) - ((1:Nat):Int) - ((1:Nat):Int)=((nd.keys.length - 2:Nat):Int):=by omega
  rw[hl]at a i o;rw[show Nd.size (Nd.cutA nd 0) - 2=16 by have a2:=hp hl;simp only[Nd.cutA,hl,Bool.false_eq_true,if_false,Nd.size,List.take_zero,zQ,Nat.zero_add,show sumL []=0 from rfl];omega]at f;rcases F with⟨j,J,j2,rfl,u,K⟩ | ⟨rfl,u⟩
  .refine⟨j,t, ?_,P,⟨J,by rw[hl];simp only[Bool.false_eq_true,if_false];omega⟩,u, .inr K⟩;simp(disch:=omega) only[f227,eZ,yU p,i,cG,Option.map_some,hl,o,s,qT a,m.lnSl,hL,ZB,f]
  .refine⟨nd.keys.length - 2,t, ?_,P,⟨by omega,by rw[hl];simp only[Bool.false_eq_true,if_false];omega⟩,by omega, .inl (by rw[hl];simp only[Bool.false_eq_true,if_false];omega)⟩;simp(disch:=omega) only[f227,eZ,yU p,i,cG,Option.map_some,hl,o,s,qT a,m.lnSl,hL,ZB,f,Y0]
open Go.Nd (cutA aG)
theorem vC {k e n:Nat}{H H':AH}{v:AV}{l l':List AV}(h:yV k e H v n l)(s:yV k e H' v n l')(x:0<k)(lo hi t:Option AV):wR k v lo hi t H'=wR k v lo hi t H:=by
 have q: ∀l:List AV,l.length=n*k->yN l true k 0 1 k=n:=fun l j=>by
  simp only[yN,show((1 % 2).beq 0)=false from rfl,cond_false,Nat.beq_refl,show Nat.beq 0 (1 / 2*k)=true from by simp,Bool.and_self,cond_true,yA,j,Nat.sub_zero];exact Nat.mul_div_cancel _ x
 have u: ∀(l:List AV) (g:Bool),yN l g k 0 (2*n) k=n:=fun l g=>by
  simp only[yN,show((2*n) % 2).beq 0=true by rw[Nat.mul_mod_right];rfl,cond_true,Nat.mul_div_cancel_left n (show 0<2 by omega)]
 rcases h with⟨j,⟨rfl,_⟩ | ⟨A,rfl,z,o⟩⟩ | ⟨j,A,J,g,rfl,z,o,F⟩
 .rfl
 .rcases s with⟨i,⟨a,_⟩ | ⟨p,a,m,f⟩⟩ | ⟨i,p,y,C,a,m,f,_⟩
  .cases a
  .simp only[AV.slice.injEq]at a;obtain⟨rfl,_⟩:=a;simp only[wR,o,f,q l j,q l' i]
  .simp only[AV.slice.injEq]at a;omega
 .rcases s with⟨i,⟨a,_⟩ | ⟨p,a,m,f⟩⟩ | ⟨i,p,y,C,a,m,f,_⟩
  .cases a
  .simp only[AV.slice.injEq]at a;omega
  .simp only[AV.slice.injEq]at a;obtain⟨rfl,_⟩:=a;simp only[wR,o,f,u]
theorem kK {H:AH}(a:H.ok){A o:Nat}{l:List AV}{e:TypeId}{x:AV}(h:H.h.get A=some (.cells l e 1 false))(f:isCell x=true)(i:o<l.length):
  ∃H',stN 1 (.ptr A o) x H=some (qX,H')/\H'.h.get A=some (.cells (l.set o x) e 1 false)/\Stp (fun B=>B=A) H H'/\H'.next=H.next:=
 ⟨_,bF h (by decide) f i,by rw[AH.put_get,if_pos rfl],(Stp.refl a).put (a.lt h) _ (.inr rfl),rfl⟩
theorem map_take (l:List Str)(k:Nat):(l.map S).take (k*1)=(l.take k).map S:=by simp
theorem map_drop (l:List Str)(k:Nat):(l.map S).drop (k*1)=(l.drop k).map S:=by simp
theorem KF: ∀(l:List Ptr) (k:Nat),(l.flatMap qZ).take (k*3)=(l.take k).flatMap qZ
 | _,0=>by simp
 | [],k+1=>by simp
 | p::l,k+1=>by
  have a:=KF l k;rw[show(k+1)*3=k*3+3 from by omega];show((qZ p)++l.flatMap qZ).take (k*3+3)=qZ p++(l.take k).flatMap qZ;rw[<-a];rfl
theorem KG: ∀(l:List Ptr) (k:Nat),(l.flatMap qZ).drop (k*3)=(l.drop k).flatMap qZ
 | _,0=>by simp
 | [],k+1=>by simp
 | p::l,k+1=>by
  have a:=KG l k;rw[show(k+1)*3=k*3+3 from by omega];show((qZ p)++l.flatMap qZ).drop (k*3+3)=(l.drop k).flatMap qZ;rw[<-a];rfl
structure CutI (H0:AH)(A1 A2 A4:Nat)(H:AH)(l1 l2 l4:List AV):Prop where
 prs:Prs H0 H
 a1:H.h.get A1=some (.cells l1 119 1 false)
 a2:H.h.get A2=some (.cells l2 119 1 false)
 a4:H.h.get A4=some (.cells l4 119 1 false)
 o1:H0.next<=A1
 o2:A1<A2
 o4:A2<A4
theorem CutI.lt {H0 H:AH}{A1 A2 A4:Nat}{l1 a f:List AV}(h:CutI H0 A1 A2 A4 H l1 a f):A4<H.next:=h.prs.ok.lt h.a4
theorem CutI.step {H0 H H':AH}{A1 A2 A4:Nat}{l1 a f:List AV}(h:CutI H0 A1 A2 A4 H l1 a f)(s:Prs H H'):CutI H0 A1 A2 A4 H' l1 a f:=
 ⟨h.prs.trans s,s.get h.prs.ok h.a1,s.get h.prs.ok h.a2,s.get h.prs.ok h.a4,h.o1,h.o2,h.o4⟩
theorem CutI.st2 {H0 H:AH}{A1 A2 A4:Nat}{l1 f a:List AV}(h:CutI H0 A1 A2 A4 H l1 f a){o:Nat}{x:AV}(i:isCell x=true)(j:o<f.length):
  ∃H',stN 1 (.ptr A2 o) x H=some (qX,H')/\CutI H0 A1 A2 A4 H' l1 (f.set o x) a/\Stp (fun B=>B=A2) H H':=by
 obtain⟨H',e,g,s,n⟩:=kK h.prs.ok h.a2 i j;have:=h.o1;have:=h.o2;have:=h.o4;have a:=h.lt;exact⟨H',e,⟨h.prs.fresh s (fun B m=>by omega),by rw[s.keep _ (by omega) (by omega)];exact h.a1,g,by rw[s.keep _ a (by omega)];exact h.a4,h.o1,h.o2,h.o4⟩,s⟩
theorem CutI.st4 {H0 H:AH}{A1 A2 A4:Nat}{l1 f a:List AV}(h:CutI H0 A1 A2 A4 H l1 f a){o:Nat}{x:AV}(i:isCell x=true)(j:o<a.length):
  ∃H',stN 1 (.ptr A4 o) x H=some (qX,H')/\CutI H0 A1 A2 A4 H' l1 f (a.set o x)/\Stp (fun B=>B=A4) H H':=by
 obtain⟨H',e,g,s,n⟩:=kK h.prs.ok h.a4 i j;have:=h.o1;have:=h.o2;have:=h.o4;have a:=h.lt;exact⟨H',e,⟨h.prs.fresh s (fun B m=>by omega),by rw[s.keep _ (by omega) (by omega)];exact h.a1,by rw[s.keep _ (by omega) (by omega)];exact h.a2,g,h.o1,h.o2,h.o4⟩,s⟩
theorem CutI.all2 {H0 H:AH}{A1 A2 A4:Nat}{l1 f a l':List AV}(h:CutI H0 A1 A2 A4 H l1 f a)(hl:l'.length=f.length)(i:qW l'=true):
  ∃H',stN f.length (.ptr A2 0) (.agg l') H=some (qX,H')/\CutI H0 A1 A2 A4 H' l1 l' a/\Stp (fun B=>B=A2) H H':=by
 obtain⟨H',e,g,s,n⟩:=y9 h.prs.ok h.a2 hl i;have:=h.o1;have:=h.o2;have:=h.o4;have a:=h.lt;exact⟨H',e,⟨h.prs.fresh s (fun B j=>by omega),by rw[s.keep _ (by omega) (by omega)];exact h.a1,g,by rw[s.keep _ a (by omega)];exact h.a4,h.o1,h.o2,h.o4⟩,s⟩
theorem CutI.all4 {H0 H:AH}{A1 A2 A4:Nat}{l1 f a l':List AV}(h:CutI H0 A1 A2 A4 H l1 f a)(hl:l'.length=a.length)(i:qW l'=true):
  ∃H',stN a.length (.ptr A4 0) (.agg l') H=some (qX,H')/\CutI H0 A1 A2 A4 H' l1 f l'/\Stp (fun B=>B=A4) H H':=by
 obtain⟨H',e,g,s,n⟩:=y9 h.prs.ok h.a4 hl i;have:=h.o1;have:=h.o2;have:=h.o4;have a:=h.lt;exact⟨H',e,⟨h.prs.fresh s (fun B j=>by omega),by rw[s.keep _ (by omega) (by omega)];exact h.a1,by rw[s.keep _ (by omega) (by omega)];exact h.a2,g,h.o1,h.o2,h.o4⟩,s⟩
def kR (u:AV)(B:Nat):Prop:= ∃x ks vs a,u= .agg [x,ks,vs,a]/\(Blk ks B\/Blk vs B\/Blk a B)
theorem jK {x ks vs a:AV}{B:Nat} :kR (.agg [x,ks,vs,a]) B↔(Blk ks B\/Blk vs B\/Blk a B):=
 ⟨fun⟨_,_,_,_,e,h⟩=>by simp only[AV.agg.injEq,List.cons.injEq,and_true]at e;obtain⟨rfl,rfl,rfl,rfl⟩:=e;exact h,fun h=>⟨_,_,_,_,rfl,h⟩⟩
def wN (N:Nat)(H:AH)(v:AV)(nd:Nd.Node):Prop:=yE H v nd/\ ∀B,kR v B->N<=B
structure FrG (A k e:Nat)(H:AH)(v:AV)(n:Nat)(l:List AV):Prop where
 g:yV k e H v n l
 f: ∀B,Blk v B->A<B
theorem FrG.prs {A k e n:Nat}{H H':AH}{v:AV}{l:List AV}(h:FrG A k e H v n l)(s:Prs H H'):FrG A k e H' v n l:=⟨h.g.mono s (fun _ _ x=>x),h.f⟩
theorem FrG.stp {A a k e n:Nat}{H H':AH}{v:AV}{l:List AV}(h:FrG A k e H v n l)(s:Stp (fun B=>B=a) H H')(j:a<=A):FrG A k e H' v n l:=
 ⟨h.g.mono s (fun B i e=>by have:=h.f B i;omega),h.f⟩
theorem zQ0 (l:Str):aveq (S l) (S l)=true:=by simp[S,aveq]
theorem FrG.nil (A k e:Nat)(H:AH):FrG A k e H .nilSlice 0 []:=⟨.inl ⟨by simp, .inl ⟨rfl,rfl⟩⟩,fun B a=>(Blk.nil.1 a).elim⟩
theorem FrG.isCell {A k e n:Nat}{H:AH}{v:AV}{l:List AV}(h:FrG A k e H v n l):isCell v=true:=h.g.isCell
theorem FrG.aveq {A k e n:Nat}{H:AH}{v:AV}{l:List AV}(h:FrG A k e H v n l):aveq v v=true:=yL h.g.row
structure FrN (A:Nat)(H:AH)(a b c:AV)(nd:Nd.Node):Prop where
 k:FrG A 1 9 H a nd.keys.length (nd.keys.map S)
 v:FrG A 1 9 H b nd.vals.length (nd.vals.map S)
 p:FrG A 3 42 H c nd.kids.length (nd.kids.flatMap qZ)
theorem FrN.stp {A i:Nat}{H H':AH}{a b c:AV}{nd:Nd.Node}(h:FrN A H a b c nd)(s:Stp (fun B=>B=i) H H')(f:i<=A):FrN A H' a b c nd:=⟨h.k.stp s f,h.v.stp s f,h.p.stp s f⟩
theorem FrN.fresh {A N:Nat}{H:AH}{x a b c:AV}{nd:Nd.Node}(h:FrN A H a b c nd)(j:N<=A): ∀B,kR (.agg [x,a,b,c]) B->N<=B:=fun B i=>by
 rcases jK.1 i with k | k | k
 .have:=h.k.f B k;omega
 .have:=h.v.f B k;omega
 .have:=h.p.f B k;omega
theorem zIu (D:Dyn)(n:Nat){H0 H:AH}{A1 A2 A4 k:Nat}{b:Bool}{ks vs V j v2 m a f i:AV}{keys:List Str}{C nb:Nd.Node}
  (h:CutI H0 A1 A2 A4 H [.bool b,ks,vs,V] [.bool b,j,v2,m] [.bool b,a,f,i]) (t:Strs H ks keys) (hR: ∀B,Blk ks B->B<H0.next) (u:k<keys.length) (o:FrN A4 H j v2 m C) (hb:FrN A4 H a f i nb):
  ∃H',KU D n [.ptr A1 0, .ptr A2 0, .ptr A4 0, .int .i64 (k:Nat)] H=some (.ret (.tuple [.agg [.bool b,j,v2,m],S (keys.getD k []), .agg [.bool b,a,f,i], .int .i64 ((0:Nat):Int)]),H')/\Prs H0 H'/\FrN A4 H' j v2 m C/\FrN A4 H' a f i nb:=by
 have o1:=h.o1;have o2:=h.o2;have o4:=h.o4;obtain⟨q,q1,q2⟩:=t.at u;obtain⟨s,W,x,y⟩:=h.all2 (l':=[.bool b,j,v2,m]) rfl (ZS _ _ _ _ o.k.isCell o.v.isCell o.p.isCell);have K:Strs s ks keys:=Rw.stp t y (fun B Y e=>by have:=hR B Y;omega);obtain⟨Z,N,O⟩:=K.at u;obtain rfl:q=Z:=by have:=q1 .i64 k rfl;rw[N .i64 k rfl]at this;cases this;rfl
 obtain⟨F,e2,z,J⟩:=x.all4 (l':=[.bool b,a,f,i]) rfl (ZS _ _ _ _ hb.k.isCell hb.v.isCell hb.p.isCell);have T:stN 4 (.ptr A2 0) (.agg [.bool b,j,v2,m]) H=some (qX,s):=W;have U:stN 4 (.ptr A4 0) (.agg [.bool b,a,f,i]) s=some (qX,F):=e2;have L:aveq (.agg [.bool b,a,f,i]) (.agg [.bool b,a,f,i])=true:=by simp[Eng.aveq,QT,hb.k.aveq,hb.v.aveq,hb.p.aveq]
 have hg:keys.getD k []=keys[k]:=by rw[zT,zH u];rfl
 have l4:ldN 4 (.ptr A4 0) s=some (.agg [.bool b,a,f,i]):=by rw[qY x.a4];rfl
 refine⟨F, ?_,z.prs,(o.stp y (by omega)).stp J (by omega),(hb.stp y (by omega)).stp J (by omega)⟩;rw[hg];simp(disch:=omega) only[KU,eZ,qY h.a2,qY h.a4,qT h.a1,q1,q2,T,U,j8 (qT x.a1 1) (yL t),j8 O (zQ0 _),j8 l4 L,qY z.a2,qY z.a4,cG,Option.map_some]
theorem zHj (D:Dyn)(n:Nat){H:AH}(q:H.ok){v:AV}{l:List Str}(h:yV 1 9 H v l.length (l.map S))(hl:l.length<=1000000000){i:Nat}(j:0<i)(hi:i<=l.length)(A:Nat)(y:A<H.next):
  ∃r a H',wR 1 v none (some (.int .i64 (i:Nat))) (some (.int .i64 (i:Nat))) H=some r/\f108 D n [r] H=some (a,H')/\Prs H H'/\FrG A 1 9 H' a (l.take i).length ((l.take i).map S):=by
 obtain⟨r,s,w,m⟩:=UO h (by decide) hi .i64 .i64;rw[map_take]at w;have o:(l.take i).length=i:=by rw[zQ];omega
 have t:Strs H r (l.take i):=by rw[Strs,o];exact w
 obtain⟨a,H',u,p,g,f⟩:=ZN D n q t (m j).1 (m j).2 (by omega);exact⟨r,a,H',s,u,p,g,fun B x=>by have:=f B x;omega⟩
theorem zH5 (D:Dyn)(n:Nat){H:AH}(m:H.ok){v:AV}{l:List Str}(h:yV 1 9 H v l.length (l.map S))(hl:l.length<=1000000000){i:Nat}(hi:i<l.length)(A:Nat)(y:A<H.next):
  ∃r a H',aveq r r=true/\wR 1 v (some (.int .i64 (i:Nat))) none none H=some r/\f108 D n [r] H=some (a,H')/\Prs H H'/\FrG A 1 9 H' a (l.drop i).length ((l.drop i).map S):=by
 obtain⟨r,o,w,q,s⟩:=Q1 h (by decide) hi .i64;rw[map_drop]at w;have j:(l.drop i).length=l.length - i:=by rw[zV]
 have t:Strs H r (l.drop i):=by rw[Strs,j];exact w
 obtain⟨a,H',u,p,g,f⟩:=ZN D n m t q s (by omega);exact⟨r,a,H',yL w,o,u,p,g,fun B x=>by have:=f B x;omega⟩
theorem zPy (D:Dyn)(n:Nat){H:AH}(q:H.ok){v:AV}{l:List Ptr}(h:yV 3 42 H v l.length (l.flatMap qZ))(hl:l.length<=1000000000){i:Nat}(j:0<i)(hi:i<=l.length)(A:Nat)(y:A<H.next):
  ∃r a H',wR 3 v none (some (.int .i64 (i:Nat))) (some (.int .i64 (i:Nat))) H=some r/\f81 D n [r] H=some (a,H')/\Prs H H'/\FrG A 3 42 H' a (l.take i).length ((l.take i).flatMap qZ):=by
 obtain⟨r,s,w,m⟩:=UO h (by decide) hi .i64 .i64;rw[KF]at w;have o:(l.take i).length=i:=by rw[zQ];omega
 have t:u4 H r (l.take i):=by rw[u4,o];exact w
 obtain⟨a,H',u,p,g,f⟩:=WJ D n q t (m j).1 (m j).2 (by omega);exact⟨r,a,H',s,u,p,g,fun B x=>by have:=f B x;omega⟩
theorem zPh (D:Dyn)(n:Nat){H:AH}(m:H.ok){v:AV}{l:List Ptr}(h:yV 3 42 H v l.length (l.flatMap qZ))(hl:l.length<=1000000000){i:Nat}(hi:i<l.length)(A:Nat)(y:A<H.next):
  ∃r a H',aveq r r=true/\wR 3 v (some (.int .i64 (i:Nat))) none none H=some r/\f81 D n [r] H=some (a,H')/\Prs H H'/\FrG A 3 42 H' a (l.drop i).length ((l.drop i).flatMap qZ):=by
 obtain⟨r,o,w,q,s⟩:=Q1 h (by decide) hi .i64;rw[KG]at w;have j:(l.drop i).length=l.length - i:=by rw[zV]
 have t:u4 H r (l.drop i):=by rw[u4,j];exact w
 obtain⟨a,H',u,p,g,f⟩:=WJ D n m t q s (by omega);exact⟨r,a,H',yL w,o,u,p,g,fun B x=>by have:=f B x;omega⟩
theorem zCP (D:Dyn)(n:Nat)(N:200000000<=n){H:AH}(v:H.ok){b:Bool}{ks vs f:AV}{nd:Nd.Node}(hb:nd.leaf=b)(h:bE H (.agg [.bool b,ks,vs,f]) nd)(O:small nd):
  ∃a i j q A1 A2 A4,(∀K,bA (some (AObj.cells [.bool b,ks,vs,f] 119 1 false,fun A=>AV.ptr A 0)) H K=K (.ptr A1 0) a)/\(∀K,bA (some (AObj.cells [.bool false, .nilSlice, .nilSlice, .nilSlice] 119 1 false,fun A=>AV.ptr A 0)) a K=K (.ptr A2 0) i)/\
   (∀K,bA (some (AObj.cells [.bool false, .nilSlice, .nilSlice, .nilSlice] 119 1 false,fun A=>AV.ptr A 0)) i K=K (.ptr A4 0) j)/\f109 D n [.agg [.bool b,ks,vs,f]] j=some (.bool (Nd.shaped ltS nd),q)/\
   CutI H A1 A2 A4 j [.bool b,ks,vs,f] [.bool false, .nilSlice, .nilSlice, .nilSlice] [.bool false, .nilSlice, .nilSlice, .nilSlice]/\CutI H A1 A2 A4 q [.bool b,ks,vs,f] [.bool false, .nilSlice, .nilSlice, .nilSlice] [.bool false, .nilSlice, .nilSlice, .nilSlice]:=by
 have o:Prs H (H.push (.cells [.bool b,ks,vs,f] 119 1 false)):=(Stp.refl v).push _;have x:(H.push (.cells [.bool b,ks,vs,f] 119 1 false)).h.get H.next=some (.cells [.bool b,ks,vs,f] 119 1 false):=AH.push_get_eq _ _
 have S:(H.push (.cells [.bool b,ks,vs,f] 119 1 false)).next=H.next+1:=rfl
 generalize F:H.push (.cells [.bool b,ks,vs,f] 119 1 false)=a at o x S;have m:Prs a (a.push (.cells [.bool false, .nilSlice, .nilSlice, .nilSlice] 119 1 false)):=(Stp.refl o.ok).push _;have y:(a.push (.cells [.bool false, .nilSlice, .nilSlice, .nilSlice] 119 1 false)).h.get a.next=some (.cells [.bool false, .nilSlice, .nilSlice, .nilSlice] 119 1 false):=AH.push_get_eq _ _
 have T:(a.push (.cells [.bool false, .nilSlice, .nilSlice, .nilSlice] 119 1 false)).next=a.next+1:=rfl
 have s:=m.get o.ok x;generalize J:a.push (.cells [.bool false, .nilSlice, .nilSlice, .nilSlice] 119 1 false)=i at m y T s;have p:Prs i (i.push (.cells [.bool false, .nilSlice, .nilSlice, .nilSlice] 119 1 false)):=(Stp.refl m.ok).push _;have z:(i.push (.cells [.bool false, .nilSlice, .nilSlice, .nilSlice] 119 1 false)).h.get i.next=some (.cells [.bool false, .nilSlice, .nilSlice, .nilSlice] 119 1 false):=AH.push_get_eq _ _
 have t:=p.get m.ok s;have u:=p.get m.ok y;generalize L:i.push (.cells [.bool false, .nilSlice, .nilSlice, .nilSlice] 119 1 false)=j at p z t u;have C:Prs H j:=(o.trans m).trans p;obtain⟨q,U,V⟩:=vD D n p.ok (h.prs C) O N;have c3:CutI H H.next a.next i.next j [.bool b,ks,vs,f] [.bool false, .nilSlice, .nilSlice, .nilSlice] [.bool false, .nilSlice, .nilSlice, .nilSlice]:=⟨C,t,u,z,by omega,by omega,by omega⟩
 refine⟨a,i,j,q,H.next,a.next,i.next,fun K=> ?_,fun K=> ?_,fun K=> ?_,U,c3,c3.step V⟩
 .simp only[eZ,yU v,F]
 .simp only[eZ,yU o.ok,J]
 .simp only[eZ,yU m.ok,L]
theorem zNY (D:Dyn)(n:Nat)(hn:200000000<=n){H:AH}(hk:H.ok){v:AV}{nd:Nd.Node}(h:yE H v nd)(U:small nd)(F:Nd.shaped ltS nd=true)(hc:vY nd)(hl:nd.leaf=true):
  ∃k va vb H',f213 D n [v] H=some (.tuple [va,S (nd.keys.getD k []),vb, .int .i64 ((0:Nat):Int)],H')/\Prs H H'/\wN H.next H' va (cutA nd k)/\wN H.next H' vb (aG nd k)/\cutOk nd k/\hbnd nd k:=by
 have V:=h.node;obtain⟨ks,vs,ps,rfl,W,h2,h3⟩:=h;rw[hl]at V;have d3:=Nd.sumL_ge nd.keys;have d4:nd.vals.length=nd.keys.length:=by
  simp only[Nd.shaped,hl,if_true,zC,zJ]at F;exact F.2.1.1
 obtain⟨s1,s2,s3⟩:=id U;obtain⟨c1,c2⟩:=id hc;obtain⟨H1,H2,H3,H4,A1,A2,A4,b1,b2,b3,e4,i3,u⟩:=zCP D n hn hk hl V U;obtain⟨k,H5,e5,p5,⟨Y,k2⟩,kb⟩:=zHl D n hn u.prs.ok (V.prs u.prs) U F hc;simp only[hl,if_true]at k2;have i5:=u.step p5;obtain⟨H6,e6,i6,t6⟩:=i5.st2 (o:=0) (x:= .bool true) rfl (by simp);obtain⟨H7,e7,y,t7⟩:=i6.st4 (o:=0) (x:= .bool true) rfl (by simp);have m {H':AH} (p:Prs H H'):=W.mono p (fun _ _ x=>x);have m2 {H':AH} (p:Prs H H'):=h2.mono p (fun _ _ x=>x);obtain⟨r8,z,H8,c8,e8,p8,f8⟩:=zHj D n y.prs.ok (m y.prs) (by omega) Y (by omega) A4 y.lt;have i8:=y.step p8;obtain⟨H9,e9,C,t9⟩:=i8.st2 (o:=1) (x:=z) f8.isCell (by simp);have f9:=f8.stp t9 (by have:=i8.o4;omega);obtain⟨d5,j,d6,_,a7,a8,Z,a0⟩:=zH5 D n C.prs.ok (m C.prs) (by omega) (show k< _ by omega) A4 C.lt;have a9:=C.step Z;obtain⟨b0,b4,a,a2⟩:=a9.st4 (o:=1) (x:=j) a0.isCell (by simp);have b5:=a0.stp a2 (by omega);obtain⟨d7,q,d8,b6,b7,T,a3⟩:=zHj D n a.prs.ok (m2 a.prs) (by omega) Y (by omega) A4 a.lt;have f:=a.step T;obtain⟨b8,s,d9,b9,a4,c0,J,a5⟩:=zH5 D n f.prs.ok (m2 f.prs) (by omega) (show k< _ by omega) A4 f.lt;have a6:wR 1 vs (some (.int .i64 (k:Nat))) none none b0=some b8:=by rw[vC (m2 f.prs) (m2 a.prs) (by decide)];exact a4
 have c3:=f.step J;obtain⟨e0,c4,c5,K⟩:=c3.st2 (o:=2) (x:=q) a3.isCell (by simp);obtain⟨i,c6,t,L⟩:=c5.st4 (o:=2) (x:=s) a5.isCell (by simp);have o4:=t.o4;have h24:=t.o1;have e1:=t.o2;have F8:FrG A4 1 9 i z _ _:=(((((f9.prs Z).stp a2 (by omega)).prs T).prs J).stp K (by omega)).stp L (by omega);have c7:FrG A4 1 9 i j _ _:=(((b5.prs T).prs J).stp K (by omega)).stp L (by omega);have c9:FrG A4 1 9 i q _ _:=((a3.prs J).stp K (by omega)).stp L (by omega);have d0:FrG A4 1 9 i s _ _:=(a5.stp K (by omega)).stp L (by omega);have na:FrN A4 i z q .nilSlice (cutA nd k):=by
  simp only[cutA,hl,if_true];exact⟨F8,c9,FrG.nil ..⟩
 have nb:FrN A4 i j s .nilSlice (aG nd k):=by
  simp only[aG,hl,if_true];exact⟨c7,d0,FrG.nil ..⟩
 obtain⟨d1,d2,P,N,O⟩:=zIu D n t ((m t.prs).row) (fun B hB=>W.lt hB) (show k<nd.keys.length by omega) na nb;refine⟨k, .agg [.bool true,z,q, .nilSlice], .agg [.bool true,j,s, .nilSlice],d1, ?_,P, ?_, ?_,⟨Y,by rw[hl];simp only[if_true];omega⟩,kb⟩
 .have t2: ¬((nd.keys.length:Nat):Int)< ((2:Nat):Int):=by omega
  simp(maxSteps:=999999)(disch:=omega) only[f213,eZ,hl,b1,b2,b3,qY i3.a1,qY u.a1,cG,Option.map_some,e4,F,qT u.a1,W.row.lnSl,t2,e5,qT i5.a1,e6,j8 (qT i6.a1 0) (zBN _),e7,qT y.a1,c8,e8,e9,qT C.a1,a7,a8,b4,qT a.a1,b6,a6,b7,j8 (qT f.a1 2) (yL h2.row),j8 a4 b9,c0,c4,c6,d2]
 .exact⟨⟨z,q, .nilSlice,by simp only[cutA,hl,if_true],N.k.g,N.v.g,N.p.g⟩,N.fresh (by omega)⟩
 .exact⟨⟨j,s, .nilSlice,by simp only[aG,hl,if_true],O.k.g,O.v.g,O.p.g⟩,O.fresh (by omega)⟩
theorem zKL (D:Dyn)(n:Nat)(hn:200000000<=n){H:AH}(hk:H.ok){v:AV}{nd:Nd.Node}(h:yE H v nd)(V:small nd)(F:Nd.shaped ltS nd=true)(hc:vY nd)(hl:nd.leaf=false):
  ∃k va vb H',f213 D n [v] H=some (.tuple [va,S (nd.keys.getD k []),vb, .int .i64 ((0:Nat):Int)],H')/\Prs H H'/\wN H.next H' va (cutA nd k)/\wN H.next H' vb (aG nd k)/\cutOk nd k/\hbnd nd k:=by
 have W:=h.node;obtain⟨ks,vs,ps,rfl,Y,h2,h3⟩:=h;rw[hl]at W;have d2:=Nd.sumL_ge nd.keys;have d3:nd.kids.length=nd.keys.length+1:=by
  simp only[Nd.shaped,hl,Bool.false_eq_true,if_false,zC,zJ]at F;exact F.2.1.2
 obtain⟨s1,s2,s3⟩:=id V;obtain⟨c1,c2⟩:=id hc;obtain⟨H1,H2,H3,H4,A1,A2,A4,b1,b2,b3,e4,i3,u⟩:=zCP D n hn hk hl W V;obtain⟨k,H5,e5,p5,⟨k1,k2⟩,kb⟩:=zHl D n hn u.prs.ok (W.prs u.prs) V F hc;simp only[hl,Bool.false_eq_true,if_false]at k2;have i5:=u.step p5;obtain⟨H6,e6,i6,t6⟩:=i5.st2 (o:=0) (x:= .bool false) rfl (by simp);obtain⟨H7,e7,y,t7⟩:=i6.st4 (o:=0) (x:= .bool false) rfl (by simp);have m {H':AH} (p:Prs H H'):=Y.mono p (fun _ _ x=>x);have m2 {H':AH} (p:Prs H H'):=h3.mono p (fun _ _ x=>x);obtain⟨r8,z,H8,c8,e8,p8,f8⟩:=zHj D n y.prs.ok (m y.prs) (by omega) k1 (by omega) A4 y.lt;have i8:=y.step p8;obtain⟨H9,e9,C,t9⟩:=i8.st2 (o:=1) (x:=z) f8.isCell (by simp);have f9:=f8.stp t9 (by have:=i8.o4;omega);obtain⟨d4,j,d5,_,a0,a8,a2,a3⟩:=zH5 D n C.prs.ok (m C.prs) (by omega) (show k+1< _ by omega) A4 C.lt;have a9:=C.step a2;obtain⟨b0,b4,a,a4⟩:=a9.st4 (o:=1) (x:=j) a3.isCell (by simp);have b5:=a3.stp a4 (by omega);obtain⟨d6,q,d7,a5,b6,T,a6⟩:=zPy D n a.prs.ok (m2 a.prs) (by omega) (show 0<k+1 by omega) (by omega) A4 a.lt;have f:=a.step T;obtain⟨b7,s,d8,b8,U,b9,J,a7⟩:=zPh D n f.prs.ok (m2 f.prs) (by omega) (show k+1< _ by omega) A4 f.lt;have Z:wR 3 ps (some (.int .i64 ((k+1:Nat):Int))) none none b0=some b7:=by rw[vC (m2 f.prs) (m2 a.prs) (by decide)];exact U
 have c0:=f.step J;obtain⟨d9,c3,c4,K⟩:=c0.st2 (o:=3) (x:=q) a6.isCell (by simp);obtain⟨i,c5,t,L⟩:=c4.st4 (o:=3) (x:=s) a7.isCell (by simp);simp only[Int.natCast_add]at a0 a5 U Z;have o4:=t.o4;have h24:=t.o1;have e0:=t.o2;have F8:FrG A4 1 9 i z _ _:=(((((f9.prs a2).stp a4 (by omega)).prs T).prs J).stp K (by omega)).stp L (by omega);have c6:FrG A4 1 9 i j _ _:=(((b5.prs T).prs J).stp K (by omega)).stp L (by omega);have c7:FrG A4 3 42 i q _ _:=((a6.prs J).stp K (by omega)).stp L (by omega);have c9:FrG A4 3 42 i s _ _:=(a7.stp K (by omega)).stp L (by omega);have na:FrN A4 i z .nilSlice q (cutA nd k):=by
  simp only[cutA,hl,Bool.false_eq_true,if_false];exact⟨F8,FrG.nil ..,c7⟩
 have nb:FrN A4 i j .nilSlice s (aG nd k):=by
  simp only[aG,hl,Bool.false_eq_true,if_false];exact⟨c6,FrG.nil ..,c9⟩
 obtain⟨d0,d1,P,N,O⟩:=zIu D n t ((m t.prs).row) (fun B hB=>Y.lt hB) (show k<nd.keys.length by omega) na nb;refine⟨k, .agg [.bool false,z, .nilSlice,q], .agg [.bool false,j, .nilSlice,s],d0, ?_,P, ?_, ?_,⟨k1,by rw[hl];simp only[Bool.false_eq_true,if_false];omega⟩,kb⟩
 .have t2: ¬((nd.keys.length:Nat):Int)< ((2:Nat):Int):=by omega
  have t3: ¬((nd.keys.length:Nat):Int)< ((3:Nat):Int):=by omega
  simp(maxSteps:=999999)(disch:=omega) only[f213,eZ,hl,b1,b2,b3,qY i3.a1,qY u.a1,cG,Option.map_some,e4,F,qT u.a1,Y.row.lnSl,t2,t3,e5,qT i5.a1,e6,j8 (qT i6.a1 0) (zBN _),e7,qT y.a1,c8,e8,e9,qT C.a1,a0,a8,b4,qT a.a1,a5,Z,b6,j8 (qT f.a1 3) (yL h3.row),j8 U b8,b9,c3,c5,d1]
 .exact⟨⟨z, .nilSlice,q,by simp only[cutA,hl,Bool.false_eq_true,if_false],N.k.g,N.v.g,N.p.g⟩,N.fresh (by omega)⟩
 .exact⟨⟨j, .nilSlice,s,by simp only[aG,hl,Bool.false_eq_true,if_false],O.k.g,O.v.g,O.p.g⟩,O.fresh (by omega)⟩
end Go.Eng.Sh
end
section
namespace Go.Eng
namespace T
variable {α:Type}
noncomputable def st (t:T α)(n:Nat)(a:α):T α:=(T.set 40 t n a).getD .leaf
end T
theorem Stp.ld1 {S:Nat->Prop}{H H':AH}(s:Stp S H H'){A:Nat}(o:Nat)(h:A<H.next)(a: ¬S A):Eng.ld1 (.ptr A o) H'=Eng.ld1 (.ptr A o) H:=by simp only[Eng.ld1,s.keep A h a]
theorem Stp.ldN {S:Nat->Prop}{H H':AH}(s:Stp S H H'){A:Nat}(o n:Nat)(h:A<H.next)(a: ¬S A):Eng.ldN n (.ptr A o) H'=Eng.ldN n (.ptr A o) H:=by simp only[Eng.ldN,s.keep A h a]
theorem Prs.l1 {H H':AH}(s:Prs H H')(A:Nat)(o:Nat)(h:A<H.next):Eng.ld1 (.ptr A o) H'=Eng.ld1 (.ptr A o) H:=s.ld1 o h (fun x=>x)
theorem Prs.b1 {H H':AH}{l:List AV}{e sz:Nat}{g:Bool}(s:Prs (H.push (.cells l e sz g)) H')(o:Nat):Eng.ld1 (.ptr H.next o) H'=l[o]? :=by
 rw[s.l1 _ _ (by rw[AH.push_next];omega),YV]
theorem Prs.refl {H:AH}(h:H.ok):Prs H H:=Stp.refl h
def Rws (k:Nat)(H:AH):List AV->List (Nat×List AV)->Prop
 | [],[]=>True
 | v::vs,r::rs=>(Rw k H v r.1 r.2/\qW r.2=true)/\Rws k H vs rs
 | _,_=>False
theorem Rws.len {k:Nat}{H:AH} : ∀ {vs:List AV} {rs:List (Nat×List AV)},Rws k H vs rs->vs.length=rs.length
 | [],[],_=>rfl
 | _::vs,_::rs,h=>by simp only[zO,Rws.len h.2]
 | [],_::_,h=>h.elim
 | _::_,[],h=>h.elim
theorem Rws.at {k:Nat}{H:AH} : ∀ {vs:List AV} {rs:List (Nat×List AV)} {i:Nat} {x:AV},Rws k H vs rs->vs[i]? =some x-> ∃r,rs[i]? =some r/\Rw k H x r.1 r.2/\qW r.2=true
 | [],[],_,_,_,h=>by simp at h
 | _::vs,r::rs,0,x,h,hx=>by simp only[List.getElem?_cons_zero,zB]at hx;subst hx;exact⟨r,rfl,h.1⟩
 | _::vs,_::rs,i+1,x,h,hx=>by simp only[List.getElem?_cons_succ]at hx⊢;exact Rws.at h.2 hx
 | [],_::_,_,_,h,_=>h.elim
 | _::_,[],_,_,h,_=>h.elim
theorem Rws.prs {k:Nat}{H H':AH}(s:Prs H H'): ∀ {vs:List AV} {rs:List (Nat×List AV)},Rws k H vs rs->Rws k H' vs rs
 | [],[],_=>trivial
 | _::vs,_::rs,h=>⟨⟨h.1.1.prs s,h.1.2⟩,Rws.prs s h.2⟩
 | [],_::_,h=>h.elim
 | _::_,[],h=>h.elim
def uB (rs:List (Nat×List AV)):Nat:=(rs.map Prod.fst).sum
def zFe (rs:List (Nat×List AV)):List AV:=rs.flatMap Prod.snd
theorem aO {rs:List (Nat×List AV)}{i:Nat}{r:Nat×List AV}(h:rs[i]? =some r):uB (rs.take (i+1))=uB (rs.take i)+r.1:=by
 obtain⟨hi,rfl⟩:=List.getElem?_eq_some_iff.1 h;rw[zU hi];simp only[uB,List.map_append,List.sum_append,List.map_cons,List.map_nil,List.sum_cons,List.sum_nil,Nat.add_zero]
theorem zBI {rs:List (Nat×List AV)}{i:Nat}{r:Nat×List AV}(h:rs[i]? =some r):zFe (rs.take (i+1))=zFe (rs.take i)++r.2:=by
 obtain⟨hi,rfl⟩:=List.getElem?_eq_some_iff.1 h;rw[zU hi];simp only[zFe,qI,zW,List.flatMap_nil,List.append_nil]
theorem ZX (rs:List (Nat×List AV))(i:Nat):uB (rs.take i)<=uB rs:=by
 have:rs=rs.take i++rs.drop i:=(List.take_append_drop i rs).symm
 conv=>rhs;rw[this]
 simp only[uB,List.map_append,List.sum_append];omega
def Part (k e:Nat)(H:AH)(v:AV)(n:Nat)(l:List AV)(a:Nat):Prop:=
 (a=0/\v= .nilSlice/\n=0/\l=[])\/ ∃A rest,v= .slice A 0 n 1/\A<H.next/\H.h.get A=some (.cells (l++rest) e k true)/\l.length=n*k/\rest.length=(a - n)*k/\n<=a
theorem Part.own {k e:Nat}{H:AH}{v:AV}{n:Nat}{l:List AV}(h:Part k e H v n l n):Own k e H v n l:=by
 rcases h with⟨rfl,rfl,_,rfl⟩ | ⟨A,rest,rfl,f,a,hl,hr,_⟩
 .exact Own.nil _ _ _
 .have:rest=[]:=zM (by rw[hr,Nat.sub_self,Nat.zero_mul]);subst this;rw[List.append_nil]at a;exact⟨hl, .inr ⟨A,rfl,f,a⟩⟩
theorem Part.app {k e bytes:Nat}{H:AH}{v s:AV}{n m a:Nat}{l new:List AV}(p:H.ok)(j:0<k)(h:Part k e H v n l a)(q:srcOf k s H=some (m,new))(hm:new.length=m*k)(t:qW new=true)(f:n+m<=a):
  ∃i H',apP e k bytes v s H=some (i,H')/\Part k e H' i (n+m) (l++new) a/\Stp (Blk v) H H'/\H'.next=H.next/\ ∀B,Blk i B->Blk v B:=by
 rcases h with⟨rfl,rfl,rfl,rfl⟩ | ⟨A,rest,rfl,u,C,hl,hr,L⟩
 .obtain rfl:m=0:=by omega
  have:new=[]:=zM (by simpa using hm);subst this;exact⟨.nilSlice,H,by simp[apP,q,t,app1], .inl ⟨rfl,rfl,rfl,rfl⟩,Stp.refl p,rfl,fun _ x=>x⟩
 .have o:(l++rest).length=a*k:=by rw[zL,hl,hr,<-Nat.add_mul];congr 1;omega
  have y:yN (l++rest) true k 0 1 k=a:=by
   simp only[yN,show((1 % 2).beq 0)=false from rfl,cond_false,Nat.beq_refl,show Nat.beq 0 (1 / 2*k)=true from by simp,Bool.and_self,cond_true,yA,o,Nat.sub_zero];exact Nat.mul_div_cancel _ j
  have b1:Nat.ble (n+m) a=true:=by rw[q9];exact f
  have F:Nat.blt 0 k=true:=by rw[zR];exact j
  have K:m*k<=rest.length:=by rw[hr];exact qF _ (by omega)
  have z:setAt (l++rest) (0+n*k) new=some (l++new++rest.drop (m*k)):=by
   rw[jW (by rw[o,hm,Nat.zero_add,<-Nat.add_mul];exact qF _ f),Nat.zero_add,hm];congr 1;rw[List.take_append_of_le_length (by omega),zP (by omega),List.drop_append,<-hl,List.drop_of_length_le (by omega),List.nil_append];congr 2;omega
  refine⟨.slice A 0 (n+m) 1,H.put A (.cells (l++new++rest.drop (m*k)) e k true), ?_, .inr ⟨A,rest.drop (m*k),rfl,u,by rw[AH.put_get,if_pos rfl],by rw[zL,hl,hm,Nat.add_mul],by rw[zV,hr,<-Nat.sub_mul];congr 1;omega,f⟩,(Stp.refl p).put u _ (.inr (Blk.slice.2 rfl)),rfl,fun B J=>Blk.slice.2 (Blk.slice.1 J)⟩;simp only[apP,q,t,cond_true,app1,C,zFp,y,b1,F,z,zBR,yQ,yG]
theorem Part.stp {k e:Nat}{S:Nat->Prop}{H H':AH}{v:AV}{n a:Nat}{l:List AV}(h:Part k e H v n l a)(s:Stp S H H')(i: ∀A,Blk v A-> ¬S A):Part k e H' v n l a:=by
 rcases h with h | ⟨A,rest,rfl,f,j,hr⟩
 .exact .inl h
 .exact .inr ⟨A,rest,rfl,zY f s.next,by rw[s.keep A f (i A (Blk.slice.2 rfl))];exact j,hr⟩
theorem zGl (z:AV): ∀m:Nat,(rep m [z]).length=m
 | 0=>rfl
 | m+1=>by simp[rep,zGl z m]
theorem zDm (a b c:AV): ∀m:Nat,(rep m [a,b,c]).length=m*3
 | 0=>rfl
 | m+1=>by simp only[rep,zL,zDm a b c m,zO,qD];omega
theorem zLK {k e bytes m:Nat}{H:AH}{z:List AV}(o:H.ok)(a:0<k)(f:(rep m z).length=m*k)(s:0<m)(hm:m<=1000000000)(hb:bytes<=1000):
  apZ e k bytes z .nilSlice (.int .i64 ((m:Nat):Int)) H=some (.slice H.next 0 m 1,H.push (.cells (rep m z) e k true))/\
  wR k (.slice H.next 0 m 1) none (some (.int .i64 ((0:Nat):Int))) none (H.push (.cells (rep m z) e k true))=some (.slice H.next 0 0 1)/\
  Part k e (H.push (.cells (rep m z) e k true)) (.slice H.next 0 0 1) 0 [] m:=by
 have b1:Nat.ble (m*bytes) 281474976710656=true:=by
  rw[q9];exact Nat.le_trans (Nat.mul_le_mul hm hb) (by decide)
 have b2:Nat.blt m 4611686018427387904=true:=by rw[zR];omega
 have p:Nat.beq m 0=false:=by rw[Bool.eq_false_iff];intro h;have:=Nat.eq_of_beq_eq_true h;omega
 have i:yN (rep m z) true k 0 1 k=m:=by
  simp only[yN,show((1 % 2).beq 0)=false from rfl,cond_false,Nat.beq_refl,show Nat.beq 0 (1 / 2*k)=true from by simp,Bool.and_self,cond_true,yA,f,Nat.sub_zero];exact Nat.mul_div_cancel _ a
 have j:Nat.blt 0 k=true:=by rw[zR];exact a
 refine⟨?_, ?_, .inr ⟨H.next,rep m z,rfl,Nat.lt_succ_self _,AH.push_get_eq _ _,by simp,by simpa using f,by omega⟩⟩
 .show apZ e k bytes z .nilSlice (.int .i64 (Int.ofNat m)) H=_;simp only[apZ,b1,b2,Bool.and_self,cond_true,app1,show m.beq 0=false from p,cond_false,wL,fY hm hb,dI,List.nil_append,cN o,yG]
 .have q:=yK .i64 (z:=((0:Nat):Int)) (by omega);simp only[wR,yZ,q,AH.push_get_eq,j,cond_true];simp[YQ,i,yG,show Nat.ble 0 m=true from by rw[q9];omega,show Nat.ble 0 0=true from rfl,show Nat.beq 1 0=false from rfl]
end Go.Eng
namespace Go.Eng.Sh
open Go.Nd (Ptr sumL cutOk cutA aG)
theorem zKm (D:Dyn)(n m:Nat)(hm:m<=1000000000){H:AH}(a:H.ok):
  ∃v H',f180 D n [.nilSlice, .int .i64 (m:Nat)] H=some (v,H')/\Prs H H'/\Part 1 9 H' v 0 [] m/\ ∀B,Blk v B->H.next<=B:=by
 have h:zOb X 117 .nilSlice=some (.int .i64 ((0:Nat):Int)):=rfl;have i:lnSl .nilSlice=some (.int .i64 ((0:Nat):Int)):=rfl;have s:wR 1 .nilSlice none (some (.int .i64 ((0:Nat):Int))) none H=some .nilSlice:=rfl;have j: ¬((m:Nat):Int)< ((0:Nat):Int):=by omega
 by_cases hp:m=0
 .subst hp;refine⟨.nilSlice,H, ?_,Stp.refl a, .inl ⟨rfl,rfl,rfl,rfl⟩,fun B f=>(Blk.nil.1 f).elim⟩;simp(disch:=omega) only[f180,KW,Y2,eZ,j,h,i,Int.sub_zero,qB,Int.sub_self]
 .obtain⟨t,u,p⟩:=zLK (k:=1) (e:=9) (bytes:=16) (m:=m) (z:=[.str 0 0]) a (by decide) (by rw[zGl];omega) (by omega) hm (by decide);have o:((m:Nat):Int) - (((0:Nat):Int) - ((0:Nat):Int))=((m:Nat):Int):=by omega
  have q:((0:Nat):Int)< ((m:Nat):Int):=by omega
  refine⟨_,_, ?_,(Stp.refl a).push _,p,fun B f=>by rw[Blk.slice.1 f];exact Nat.le_refl _⟩;simp(disch:=omega) only[f180,KW,Y2,eZ,j,h,i,s,o,q,t,u]
theorem zKn (D:Dyn)(n m:Nat)(hm:m<=1000000000){H:AH}(a:H.ok):
  ∃v H',f214 D n [.nilSlice, .int .i64 (m:Nat)] H=some (v,H')/\Prs H H'/\Part 3 42 H' v 0 [] m/\ ∀B,Blk v B->H.next<=B:=by
 have h:zOb X 50 .nilSlice=some (.int .i64 ((0:Nat):Int)):=rfl;have i:lnSl .nilSlice=some (.int .i64 ((0:Nat):Int)):=rfl;have u:wR 3 .nilSlice none (some (.int .i64 ((0:Nat):Int))) none H=some .nilSlice:=rfl;have j: ¬((m:Nat):Int)< ((0:Nat):Int):=by omega
 by_cases hp:m=0
 .subst hp;refine⟨.nilSlice,H, ?_,Stp.refl a, .inl ⟨rfl,rfl,rfl,rfl⟩,fun B f=>(Blk.nil.1 f).elim⟩;simp(disch:=omega) only[f214,KT,Y1,eZ,j,h,i,Int.sub_zero,qB,Int.sub_self]
 .obtain⟨o,q,p⟩:=zLK (k:=3) (e:=42) (bytes:=24) (m:=m) (z:=[.int .i64 (.ofNat 0), .int .i64 (.ofNat 0), .int .u64 (.ofNat 0)]) a (by decide) (by rw[zDm]) (by omega) hm (by decide);have s:((m:Nat):Int) - (((0:Nat):Int) - ((0:Nat):Int))=((m:Nat):Int):=by omega
  have t:((0:Nat):Int)< ((m:Nat):Int):=by omega
  refine⟨_,_, ?_,(Stp.refl a).push _,p,fun B f=>by rw[Blk.slice.1 f];exact Nat.le_refl _⟩;simp only[Int.ofNat_eq_natCast]at o q;simp(disch:=omega) only[f214,KT,Y1,eZ,j,h,i,u,s,t,o,q]
theorem catS1 (D:Dyn)(n:Nat){H:AH}{v:AV}{vs:List AV}{rs:List (Nat×List AV)}(q:Rw 1 H v vs.length vs)(h:Rws 1 H vs rs)(hb:uB rs<=1000000000)(hl:vs.length<=1000000000)(a:Nat)(s:vs.length<a):
  yF a (fK D n) [v, .int .i64 ((0:Nat):Int),v, .int .i64 (vs.length:Nat), .int .i64 ((0:Nat):Int)] H=some (.exit 0 [v, .int .i64 (uB rs:Nat)],H):=by
 have f:=h.len;refine kH (fun i=>[v, .int .i64 (uB (rs.take i):Nat),v, .int .i64 (vs.length:Nat), .int .i64 (i:Nat)]) vs.length ?_ ?_ a s
 .intro i hi;obtain⟨p,x,t,u,y⟩:=q.ld1 hi;obtain⟨r,z,C,L⟩:=h.at y;have o:((i:Nat):Int)< ((vs.length:Nat):Int):=by omega
  have N:=aO z;have J:=ZX rs i;have K:=ZX rs (i+1);have j: ¬((uB (rs.take i):Nat):Int)+((r.1:Nat):Int)< ((0:Nat):Int):=by omega
  have F:((uB (rs.take (i+1)):Nat):Int)=((uB (rs.take i):Nat):Int)+((r.1:Nat):Int):=by omega
  rw[F];simp(disch:=omega) only[fK,dU,eZ,o,t,u,C.lnSl,j,Int.natCast_add]
 .intro m;refine y7 ?_;have:rs.take vs.length=rs:=by rw[f];exact qJ
  simp only[fK,eZ,qB,this]
theorem catS2 (D:Dyn)(n:Nat){H:AH}(N:H.ok){v:AV}{vs:List AV}{rs:List (Nat×List AV)}(O:Rw 1 H v vs.length vs)(h:Rws 1 H vs rs)(hl:vs.length<=1000000000)
  {w:AV} (S:Part 1 9 H w 0 [] (uB rs)) (C: ∀B,Blk w B-> ¬Blk v B) (F: ∀B,Blk w B-> ∀x∈vs,¬Blk x B) (j:Nat) (T:vs.length<j):
  ∃a H',yF j (fJ D n) [w,v, .int .i64 (vs.length:Nat), .int .i64 ((0:Nat):Int)] H=some (.exit 2 [a],H')/\Stp (Blk w) H H'/\Part 1 9 H' a (uB rs) (zFe rs) (uB rs)/\ ∀B,Blk a B->Blk w B:=by
 have z:=h.len;obtain⟨m,o,H',U,a,rfl,V,s,W⟩:=wI (b:=fJ D n) vs.length (fun i o H'=> ∃a,o=[a,v, .int .i64 (vs.length:Nat), .int .i64 (i:Nat)]/\Stp (Blk w) H H'/\Part 1 9 H' a (uB (rs.take i)) (zFe (rs.take i)) (uB rs)/\ ∀B,Blk a B->Blk w B) (fun i o H1 hi ⟨w1,hus,hs,hp,hB⟩=>by
  subst hus;obtain⟨p,x,Y,Z,t⟩:=(O.stp hs (fun A f q=>C A q f)).ld1 hi;obtain⟨r,u,y,r3⟩:=h.at t;have hx:x∈vs:=List.mem_of_getElem? t;have J:=y.stp hs (fun A f q=>F A q x hx f);have K:((i:Nat):Int)< ((vs.length:Nat):Int):=by omega
  have a0:=ZX rs (i+1);have L:=aO u;obtain⟨w2,H2,e2,q2,s2,n2,b2⟩:=hp.app (bytes:=16) hs.ok (by decide) J.srcOf y.1 r3 (by omega);rw[<-L,<-zBI u]at q2;refine⟨_,H2, ?_,w2,rfl,hs.trans (s2.mono fun A _ f=>hB A f),q2,fun B hb=>hB B (b2 B hb)⟩;simp(disch:=omega) only[fJ,eZ,K,Y,Z,e2,Int.natCast_add]) j _ H ⟨w,rfl,Stp.refl N,S,fun _ x=>x⟩ T
 rw[z,qJ]at s;exact⟨a,H',U.trans (y7 (by simp only[fJ,eZ,qB])),V,s,W⟩
theorem zIG (D:Dyn)(n:Nat){H:AH}(s:H.ok){v:AV}{vs:List AV}{rs:List (Nat×List AV)}(j:Rw 1 H v vs.length vs)(h:Rws 1 H vs rs)(hb:uB rs<=1000000000)(hl:vs.length<=1000000000)(o:vs.length<n)
  (p: ∀B,Blk v B->B<H.next) (q: ∀x∈vs,∀B,Blk x B->B<H.next):
  ∃w H',f132 D n [v] H=some (w,H')/\Prs H H'/\Own 1 9 H' w (uB rs) (zFe rs)/\ ∀B,Blk w B->H.next<=B:=by
 obtain⟨K,L,t,f,q1,i⟩:=zKm D n (uB rs) hb s;obtain⟨u,y,z,C,q2,F⟩:=catS2 D n f.ok (j.prs f) (h.prs f) hl q1 (fun B a m=>by have:=i B a;have:=p B m;omega) (fun B a x J m=>by have:=i B a;have:=q x J B m;omega) n o;have l1:=catS1 D n j h hb hl n o;refine⟨u,y, ?_,f.fresh C i,q2.own,fun B a=>i B (F B a)⟩;simp only[f132,eZ,j.lnSl,l1,VM,t,z,WA]
theorem catP1 (D:Dyn)(n:Nat){H:AH}{v:AV}{vs:List AV}{rs:List (Nat×List AV)}(q:Rw 1 H v vs.length vs)(h:Rws 3 H vs rs)(hb:uB rs<=1000000000)(hl:vs.length<=1000000000)(a:Nat)(s:vs.length<a):
  yF a (fH D n) [v, .int .i64 ((0:Nat):Int),v, .int .i64 (vs.length:Nat), .int .i64 ((0:Nat):Int)] H=some (.exit 0 [v, .int .i64 (uB rs:Nat)],H):=by
 have f:=h.len;refine kH (fun i=>[v, .int .i64 (uB (rs.take i):Nat),v, .int .i64 (vs.length:Nat), .int .i64 (i:Nat)]) vs.length ?_ ?_ a s
 .intro i hi;obtain⟨p,x,t,u,y⟩:=q.ld1 hi;obtain⟨r,z,C,L⟩:=h.at y;have o:((i:Nat):Int)< ((vs.length:Nat):Int):=by omega
  have N:=aO z;have J:=ZX rs i;have K:=ZX rs (i+1);have j: ¬((uB (rs.take i):Nat):Int)+((r.1:Nat):Int)< ((0:Nat):Int):=by omega
  have F:((uB (rs.take (i+1)):Nat):Int)=((uB (rs.take i):Nat):Int)+((r.1:Nat):Int):=by omega
  rw[F];simp(disch:=omega) only[fH,dT,eZ,o,t,u,C.lnSl,j,Int.natCast_add]
 .intro m;refine y7 ?_;have:rs.take vs.length=rs:=by rw[f];exact qJ
  simp only[fH,eZ,qB,this]
theorem catP2 (D:Dyn)(n:Nat){H:AH}(N:H.ok){v:AV}{vs:List AV}{rs:List (Nat×List AV)}(O:Rw 1 H v vs.length vs)(h:Rws 3 H vs rs)(hl:vs.length<=1000000000)
  {w:AV} (S:Part 3 42 H w 0 [] (uB rs)) (C: ∀B,Blk w B-> ¬Blk v B) (F: ∀B,Blk w B-> ∀x∈vs,¬Blk x B) (j:Nat) (T:vs.length<j):
  ∃a H',yF j (fG D n) [w,v, .int .i64 (vs.length:Nat), .int .i64 ((0:Nat):Int)] H=some (.exit 2 [a],H')/\Stp (Blk w) H H'/\Part 3 42 H' a (uB rs) (zFe rs) (uB rs)/\ ∀B,Blk a B->Blk w B:=by
 have z:=h.len;obtain⟨m,o,H',U,a,rfl,V,s,W⟩:=wI (b:=fG D n) vs.length (fun i o H'=> ∃a,o=[a,v, .int .i64 (vs.length:Nat), .int .i64 (i:Nat)]/\Stp (Blk w) H H'/\Part 3 42 H' a (uB (rs.take i)) (zFe (rs.take i)) (uB rs)/\ ∀B,Blk a B->Blk w B) (fun i o H1 hi ⟨w1,hus,hs,hp,hB⟩=>by
  subst hus;obtain⟨p,x,Y,Z,t⟩:=(O.stp hs (fun A f q=>C A q f)).ld1 hi;obtain⟨r,u,y,r3⟩:=h.at t;have hx:x∈vs:=List.mem_of_getElem? t;have J:=y.stp hs (fun A f q=>F A q x hx f);have K:((i:Nat):Int)< ((vs.length:Nat):Int):=by omega
  have a0:=ZX rs (i+1);have L:=aO u;obtain⟨w2,H2,e2,q2,s2,n2,b2⟩:=hp.app (bytes:=24) hs.ok (by decide) J.srcOf y.1 r3 (by omega);rw[<-L,<-zBI u]at q2;refine⟨_,H2, ?_,w2,rfl,hs.trans (s2.mono fun A _ f=>hB A f),q2,fun B hb=>hB B (b2 B hb)⟩;simp(disch:=omega) only[fG,eZ,K,Y,Z,e2,Int.natCast_add]) j _ H ⟨w,rfl,Stp.refl N,S,fun _ x=>x⟩ T
 rw[z,qJ]at s;exact⟨a,H',U.trans (y7 (by simp only[fG,eZ,qB])),V,s,W⟩
theorem zIH (D:Dyn)(n:Nat){H:AH}(s:H.ok){v:AV}{vs:List AV}{rs:List (Nat×List AV)}(j:Rw 1 H v vs.length vs)(h:Rws 3 H vs rs)(hb:uB rs<=1000000000)(hl:vs.length<=1000000000)(o:vs.length<n)
  (p: ∀B,Blk v B->B<H.next) (q: ∀x∈vs,∀B,Blk x B->B<H.next):
  ∃w H',f178 D n [v] H=some (w,H')/\Prs H H'/\Own 3 42 H' w (uB rs) (zFe rs)/\ ∀B,Blk w B->H.next<=B:=by
 obtain⟨K,L,t,f,q1,i⟩:=zKn D n (uB rs) hb s;obtain⟨u,y,z,C,q2,F⟩:=catP2 D n f.ok (j.prs f) (h.prs f) hl q1 (fun B a m=>by have:=i B a;have:=p B m;omega) (fun B a x J m=>by have:=i B a;have:=q x J B m;omega) n o;have l1:=catP1 D n j h hb hl n o;refine⟨u,y, ?_,f.fresh C i,q2.own,fun B a=>i B (F B a)⟩;simp only[f178,eZ,j.lnSl,l1,VI,t,z,KX]
end Go.Eng.Sh
end
section
namespace Go.Eng
theorem hp:(∀(o:AObj) (f:Nat->AV) (H:AH) (K:AV->AH->Rs),H.ok->bA (some (o,f)) H K=K (f H.next) (H.push o))/\
  (∀(H:AH) (A o:Nat) (x:AObj),A<H.next->ld1 (.ptr A o) (H.push x)=ld1 (.ptr A o) H)/\
  (∀(H:AH) (A o n:Nat) (x:AObj),A<H.next->ldN n (.ptr A o) (H.push x)=ldN n (.ptr A o) H)/\
  (∀(l:List AV) (o n:Nat) (a:AV),o=0->n=l.length->(xX l o n).map AV.agg=some (.agg l))/\
  (∀(a b c d:AV),xX [a,b,c,d] 0 4=some [a,b,c,d])/\
  (∀(l:List AV),(some l).map AV.agg=some (.agg l))/\
  (∀(vs:List AV) (i:Nat),qV (.tuple vs) i=vs[i]?):=
 ⟨fun o f H K h=>yU h o f K,fun H A o x h=>zCn o x h,fun H A o n x h=>zNl o n x h,fun l o n _ j m=>by subst j;subst m;rw[yY _ _ _ (.inr (by omega)),List.drop_zero,qJ];rfl,fun _ _ _ _=>rfl,fun _=>rfl,fun vs i=>by simp only[qV,aW]⟩
end Go.Eng
end
section
namespace Go.Nd
def partedN (lt:Str->Str->Bool)(a:Node)(sep:Str)(b:Node):Bool:=
 mayK sep&&(a.leaf==b.leaf)&&(decide (a.keys.length=0)||lt (a.keys.getD (a.keys.length - 1) []) sep)&&(decide (b.keys.length=0)||lt sep (b.keys.getD 0 [])||(a.leaf&&decide (sep=b.keys.getD 0 [])))
end Go.Nd
namespace Go.Eng.Sh
open Go.Nd (Ptr sumL cutOk cutA aG partedN)
theorem zGM (D:Dyn)(n:Nat){H:AH}(hk:H.ok){v w:AV}{a b:Nd.Node}{sep:Str}(h:bE H v a)(h':bE H w b)(hs:small a)(a1:small b):
  ∃H',f212 D n [v,S sep,w] H=some (.bool (partedN ltS a sep b),H')/\Prs H H':=by
 obtain⟨ks,vs,K,rfl,Z,h2,h3⟩:=h;obtain⟨J,vs',O,rfl,k1,k2,k3⟩:=h';have a4:=Nd.sumL_ge a.keys;have a3:=Nd.sumL_ge b.keys;obtain⟨s1,s2,s3⟩:=hs;obtain⟨a5,a6,a7⟩:=a1;have P:Prs H ((H.push (.cells [.bool a.leaf,ks,vs,K] 119 1 false)).push (.cells [.bool b.leaf,J,vs',O] 119 1 false)):=((Stp.refl hk).push _).push _;have l1:=Z.lnSl;have u:=k1.lnSl;have q1:=Z.prs P;have q2:=k1.prs P;generalize f:(H.push (.cells [.bool a.leaf,ks,vs,K] 119 1 false)).push (.cells [.bool b.leaf,J,vs',O] 119 1 false)=H2 at P q1 q2;have p: ∀o,ld1 (.ptr H.next o) H2=[.bool a.leaf,ks,vs,K][o]? :=fun o=>by rw[<-f,zCn _ _ (by rw[AH.push_next];omega),YV]
 have j: ∀o,ld1 (.ptr (H.push (.cells [.bool a.leaf,ks,vs,K] 119 1 false)).next o) H2=[.bool b.leaf,J,vs',O][o]? :=fun o=>by rw[<-f,YV]
 refine⟨H2, ?_,P⟩;have a2: ∀x y:Bool,(!(x==y))=false->x=y:=fun x y=>by cases x<;>cases y<;>simp
 cases hm:Nd.mayK sep with
 | false=>simp(disch:=first | assumption | omega | (simp only[AH.push_next,AH.put_next];omega) | (repeat(first | assumption | apply AH.ok.push))) only[f212,eZ,hp,f,j7,hm,partedN]
 | true=>
  cases hl:(a.leaf==b.leaf)with
  | false=>simp(disch:=first | assumption | omega | (simp only[AH.push_next,AH.put_next];omega) | (repeat(first | assumption | apply AH.ok.push))) only[f212,eZ,hp,f,j7,hm,partedN,p,j,hl]
  | true=>
   have e:b.leaf=a.leaf:=by revert hl;cases a.leaf<;>cases b.leaf<;>simp
   rw[e]at j f;simp only[partedN,hm,hl,Bool.true_and];rw[e];clear hl e a2;generalize a.leaf=la at*
   have t:(la==la)=true:=by simp
   have a0:
     (∃V,b.keys.length≠0->(∀κ (z:Int),z=((0:Nat):Int)->hU 1 J (.int κ z)=some V)/\Eng.ld1 V H2=some (S (b.keys.getD 0 []))):=by
    by_cases h0:b.keys.length=0
    .exact⟨.nilPtr,fun h=>absurd h0 h⟩
    .obtain⟨q,C,F⟩:=q2.at (i:=0) (by omega);refine⟨q,fun _=>⟨C, ?_⟩⟩;rw[wK (by omega)];exact F
   obtain⟨V,Y⟩:=a0;by_cases ha:a.keys.length=0
   .have s: ¬((0:Nat):Int)< ((a.keys.length:Nat):Int):=by omega
    simp only[ha,decide_true,Bool.true_or,Bool.true_and];by_cases hb:b.keys.length=0
    .have m:((b.keys.length:Nat):Int)=((0:Nat):Int):=by omega
     simp only[hb,decide_true,Bool.true_or];simp(disch:=first | assumption | omega | (simp only[AH.push_next,AH.put_next];omega) | (repeat(first | assumption | apply AH.ok.push))) only[f212,eZ,hp,f,j7,hm,p,j,t,l1,u,s,m]
    .have m: ¬((b.keys.length:Nat):Int)=((0:Nat):Int):=by omega
     obtain⟨C,F⟩:=Y hb;simp only[hb,decide_false,Bool.false_or]
     cases T:ltS sep (b.keys.getD 0 [])<;>cases la<;>simp(disch:=first | assumption | omega | (simp only[AH.push_next,AH.put_next];omega) | (repeat(first | assumption | apply AH.ok.push))) only[f212,eZ,hp,f,j7,hm,p,j,t,l1,u,s,m,C,F,T]
   .have s:((0:Nat):Int)< ((a.keys.length:Nat):Int):=by omega
    obtain⟨q,W,L⟩:=q1.at (i:=a.keys.length - 1) (by omega);rw[<-wK (d:=[])]at L;have N:((a.keys.length:Nat):Int) - ((1:Nat):Int)=((a.keys.length - 1:Nat):Int):=by omega
    simp only[ha,decide_false,Bool.false_or]
    cases U:ltS (a.keys.getD (a.keys.length - 1) []) sep with
    | false=>simp(disch:=first | assumption | omega | (simp only[AH.push_next,AH.put_next];omega) | (repeat(first | assumption | apply AH.ok.push))) only[f212,eZ,hp,f,j7,hm,p,j,t,l1,u,s,N,W,L,U]
    | true=>
     by_cases hb:b.keys.length=0
     .have m:((b.keys.length:Nat):Int)=((0:Nat):Int):=by omega
      simp only[hb,decide_true,Bool.true_or];simp(disch:=first | assumption | omega | (simp only[AH.push_next,AH.put_next];omega) | (repeat(first | assumption | apply AH.ok.push))) only[f212,eZ,hp,f,j7,hm,p,j,t,l1,u,s,m,N,W,L,U]
     .have m: ¬((b.keys.length:Nat):Int)=((0:Nat):Int):=by omega
      obtain⟨C,F⟩:=Y hb;simp only[hb,decide_false,Bool.false_or]
      cases T:ltS sep (b.keys.getD 0 [])<;>cases la<;>simp(disch:=first | assumption | omega | (simp only[AH.push_next,AH.put_next];omega) | (repeat(first | assumption | apply AH.ok.push))) only[f212,eZ,hp,f,j7,hm,p,j,t,l1,u,s,m,N,W,L,U,C,F,T]
end Go.Eng.Sh
end
section
namespace Go.Eng
theorem box {H:AH}(f:H.ok)(o:AObj): ∃H' A,(∀(a:Nat->AV) (K:AV->AH->Rs),bA (some (o,a)) H K=K (a A) H')/\Prs H H'/\H'.h.get A=some o/\H.next<=A/\A<H'.next:=
 ⟨H.push o,H.next,fun a K=>yU f o a K,(Stp.refl f).push o,AH.push_get_eq _ _,Nat.le_refl _,by rw[AH.push_next];omega⟩
theorem zP4 {x y:AV}(e:TypeId)(z:AV)(a:isCell x=true)(f:isCell y=true)(h:isCell z=true):d7 e 1 2 [z] [(0,x),(1,y)]=some (.cells [x,y] e 1 false,fun A=> .slice A 0 2 4):=by
 simp only[d7,uJ,rep,yP a,yP f];rfl
theorem row3 {x y w:AV}(e:TypeId)(z:AV)(a:isCell x=true)(f:isCell y=true)(h:isCell w=true):d7 e 1 3 [z] [(0,x),(1,y),(2,w)]=some (.cells [x,y,w] e 1 false,fun A=> .slice A 0 3 6):=by
 simp only[d7,uJ,rep,yP a,yP f,yP h];rfl
theorem zMT {x:AV}(e:TypeId)(z:AV)(a:isCell x=true):d7 e 1 1 [z] [(0,x)]=some (.cells [x] e 1 false,fun A=> .slice A 0 1 2):=by
 simp only[d7,uJ,rep,yP a];rfl
theorem Rw.lit {H:AH}{A e:Nat}{l:List AV}{cc:Nat}(a:H.ok)(h:H.h.get A=some (.cells l e 1 false)):Rw 1 H (.slice A 0 l.length cc) l.length l:=
 ⟨by simp, .inr (.inr ⟨A,0,cc,l,e,1,false,rfl,h,a.lt h,by simp,by simp⟩)⟩
end Go.Eng
namespace Go.Eng.Sh
open Go.Nd (Ptr sumL cutOk cutA aG partedN fC)
theorem vU {A:Nat}{H:AH}{l:List AV}{e:TypeId}(h:H.h.get A=some (.cells l e 1 false))(hl:l.length=4):ldN 4 (.ptr A 0) H=some (.agg l):=by
 rw[qY h,yY _ _ _ (.inr (by omega)),List.drop_zero,zP (by omega)];rfl
def nd0:Nd.Node:=⟨false,[],[],[]⟩
theorem ZT.zero (H0 H:AH):ZT H0 H (.agg [.bool false, .nilSlice, .nilSlice, .nilSlice]) nd0:=
 ⟨_,_,_,rfl,Own.nil ..,Own.nil ..,Own.nil ..,fun B a=>by rcases a with h | h | h<;>exact(Blk.nil.1 h).elim,fun B a=>(Blk.nil.1 a).elim,fun B a=>(Blk.nil.1 a).elim⟩
def joinOk (a:Nd.Node)(sep:Str)(b:Nd.Node):Bool:=Nd.shaped ltS a&&Nd.shaped ltS b&&partedN ltS a sep b
theorem zKN (D:Dyn)(n:Nat){H:AH}{A cc:Nat}{x y:AV}{l m:List Str}(i:H.ok)(j:H.h.get A=some (.cells [x,y] 117 1 false))(q:Strs H x l)(s:Strs H y m)(hb:l.length+m.length<=1000000000)(u:100<=n):
  ∃w H',f132 D n [.slice A 0 2 cc] H=some (w,H')/\Prs H H'/\Own 1 9 H' w (l++m).length ((l++m).map S)/\ ∀B,Blk w B->H.next<=B:=by
 obtain⟨w,H',e,p,o,f⟩:=zIG D n i (v:= .slice A 0 2 cc) (vs:=[x,y]) (rs:=[(l.length,l.map S),(m.length,m.map S)]) (Rw.lit i j) ⟨⟨q,wH _⟩,⟨s,wH _⟩,trivial⟩ (by simpa[uB]using hb) (by simp) (by simp;omega)
  (fun B a=>by rw[Blk.slice.1 a];exact i.lt j) (fun z t B a=>by
   simp only[List.mem_cons,List.not_mem_nil,or_false]at t;rcases t with rfl | rfl
   .exact Rw.blk q a
   .exact Rw.blk s a)
 exact⟨w,H',e,p,by simpa[uB,zFe]using o,f⟩
theorem zPP (D:Dyn)(n:Nat){H:AH}{A cc:Nat}{x y z:AV}{l m k:List Str}(i:H.ok)(j:H.h.get A=some (.cells [x,y,z] 117 1 false))(q:Strs H x l)(s:Strs H y m)(t:Strs H z k)(hb:l.length+m.length+k.length<=1000000000)(C:100<=n):
  ∃w H',f132 D n [.slice A 0 3 cc] H=some (w,H')/\Prs H H'/\Own 1 9 H' w (l++(m++k)).length ((l++(m++k)).map S)/\ ∀B,Blk w B->H.next<=B:=by
 obtain⟨w,H',e,p,o,f⟩:=zIG D n i (v:= .slice A 0 3 cc) (vs:=[x,y,z]) (rs:=[(l.length,l.map S),(m.length,m.map S),(k.length,k.map S)]) (Rw.lit i j) ⟨⟨q,wH _⟩,⟨s,wH _⟩,⟨t,wH _⟩,trivial⟩ (by simp[uB];omega) (by simp) (by simp;omega)
  (fun B a=>by rw[Blk.slice.1 a];exact i.lt j) (fun z u B a=>by
   simp only[List.mem_cons,List.not_mem_nil,or_false]at u;rcases u with rfl | rfl | rfl
   .exact Rw.blk q a
   .exact Rw.blk s a
   .exact Rw.blk t a)
 exact⟨w,H',e,p,by simpa[uB,zFe]using o,f⟩
theorem conP2 (D:Dyn)(n:Nat){H:AH}{A cc:Nat}{x y:AV}{l m:List Ptr}(i:H.ok)(j:H.h.get A=some (.cells [x,y] 50 1 false))(q:u4 H x l)(s:u4 H y m)(hb:l.length+m.length<=1000000000)(u:100<=n):
  ∃w H',f178 D n [.slice A 0 2 cc] H=some (w,H')/\Prs H H'/\Own 3 42 H' w (l++m).length ((l++m).flatMap qZ)/\ ∀B,Blk w B->H.next<=B:=by
 obtain⟨w,H',e,p,o,f⟩:=zIH D n i (v:= .slice A 0 2 cc) (vs:=[x,y]) (rs:=[(l.length,l.flatMap qZ),(m.length,m.flatMap qZ)]) (Rw.lit i j) ⟨⟨q,v6 _⟩,⟨s,v6 _⟩,trivial⟩ (by simpa[uB]using hb) (by simp) (by simp;omega)
  (fun B a=>by rw[Blk.slice.1 a];exact i.lt j) (fun z t B a=>by
   simp only[List.mem_cons,List.not_mem_nil,or_false]at t;rcases t with rfl | rfl
   .exact Rw.blk q a
   .exact Rw.blk s a)
 exact⟨w,H',e,p,by simpa[uB,zFe]using o,f⟩
theorem cX:wY [(0,1),(1,1),(2,1),(3,1)] [.bool false, .nilSlice, .nilSlice, .nilSlice] []=some (.agg [.bool false, .nilSlice, .nilSlice, .nilSlice]):=rfl
theorem zIO {a b:AV}(x:Bool)(f:isCell a=true)(hb:isCell b=true):wY [(0,1),(1,1),(2,1),(3,1)] [.bool false, .nilSlice, .nilSlice, .nilSlice] [(0, .bool x),(1,a),(2,b)]=some (.agg [.bool x,a,b, .nilSlice]):=by
 simp only[wY,uJ,zK7,yP f,yP hb];rfl
theorem zO4 {a b:AV}(f:isCell a=true)(hb:isCell b=true):wY [(0,1),(1,1),(2,1),(3,1)] [.bool false, .nilSlice, .nilSlice, .nilSlice] [(1,a),(3,b)]=some (.agg [.bool false,a, .nilSlice,b]):=by
 simp only[wY,uJ,zK7,yP f,yP hb];rfl
theorem zH9 (D:Dyn)(n:Nat)(hn:200000000<=n){H:AH}(hk:H.ok){v w:AV}{a b:Nd.Node}{sep:Str}(h:bE H v a)(h':bE H w b)(hs:small a)(c6:small b):
  ∃u H',f176 D n [v,S sep,w] H=some (.tuple [u, .int .i64 ((if joinOk a sep b then 0 else 1:Nat):Int)],H')/\Prs H H'/\ZT H H' u (if joinOk a sep b then fC a sep b else nd0):=by
 have i0:=h;have c7:=h';obtain⟨ks,vs,ps,rfl,h1,h2,h3⟩:=h;obtain⟨la,a8⟩: ∃la,la=a.leaf:=⟨_,rfl⟩;rw[<-a8]at i0⊢;obtain⟨a9,vs',c8,rfl,k1,k2,k3⟩:=h';have e1:=Nd.sumL_ge a.keys;have d9:=Nd.sumL_ge b.keys;have e2:=Nd.sumL_ge a.vals;have e0:=Nd.sumL_ge b.vals;have s0:=hs;have c9:=c6;obtain⟨s1,s2,s3⟩:=hs;obtain⟨e3,e7,e8⟩:=c6;obtain⟨H1,A1,b1,p1,g1,m1,n1⟩:=box hk (.cells [.bool la,ks,vs,ps] 119 1 false);obtain⟨H2,A2,b2,p2,g2,m2,n2⟩:=box p1.ok (.cells [.bool b.leaf,a9,vs',c8] 119 1 false);obtain⟨H3,U,b3,p3,g3,m3,n3⟩:=box p2.ok (.cells [.bool false, .nilSlice, .nilSlice, .nilSlice] 119 1 false);have P3:Prs H H3:=(p1.trans p2).trans p3;have Z:=p3.get p2.ok (p2.get p1.ok g1);have d4:=p3.get p2.ok g2;obtain⟨H4,e4,p4⟩:=vD D n P3.ok (i0.prs P3) s0 hn;have V:=P3.trans p4;have d5:=p4.get P3.ok Z;have a3:=p4.get P3.ok d4;have d0:=p4.get P3.ok g3;have a4: ∀ {t:AH} {l:List AV},Prs H t->t.h.get U=some (.cells [.bool false, .nilSlice, .nilSlice, .nilSlice] 119 1 false)->l.length=4->qW l=true-> ∃i,stN 4 (.ptr U 0) (.agg l) t=some (qX,i)/\Prs H i/\Stp (fun B=>B=U) t i/\ldN 4 (.ptr U 0) i=some (.agg l):=fun {t l} px hg hl hc=>by
  obtain⟨i,e,g,s,_⟩:=y9 px.ok hg hl hc;have e':stN 4 (.ptr U 0) (.agg l) t=some (qX,i):=e;exact⟨i,e',px.fresh s (fun B f=>by omega),s,by rw[qY g,yY _ _ _ (.inr (by omega)),List.drop_zero,zP (by omega)];rfl⟩
 cases c1:Nd.shaped ltS a with
 | false=>
  obtain⟨i,C,F,_,J⟩:=a4 (l:=[.bool false, .nilSlice, .nilSlice, .nilSlice]) V d0 rfl rfl;refine⟨.agg [.bool false, .nilSlice, .nilSlice, .nilSlice],i, ?_,F, ?_⟩
  rotate_left
  .simp only[joinOk,c1,Bool.false_and,Bool.false_eq_true,if_false];exact ZT.zero _ _
  .simp only[joinOk,c1,Bool.false_and,Bool.false_eq_true,if_false];simp(disch:=omega) only[f176,eZ,b1,b2,b3,qY Z,cG,Option.map_some,e4,c1,cX,C,J]
 | true=>
 obtain⟨H5,e5,p5⟩:=vD D n V.ok (c7.prs V) c9 hn;have N:=V.trans p5;have a5:=p5.get V.ok d5;have a6:=p5.get V.ok a3;have d1:=p5.get V.ok d0
 cases c2:Nd.shaped ltS b with
 | false=>
  obtain⟨i,C,F,_,J⟩:=a4 (l:=[.bool false, .nilSlice, .nilSlice, .nilSlice]) N d1 rfl rfl;refine⟨.agg [.bool false, .nilSlice, .nilSlice, .nilSlice],i, ?_,F, ?_⟩
  rotate_left
  .simp only[joinOk,c2,Bool.false_and,Bool.and_false,Bool.false_eq_true,if_false];exact ZT.zero _ _
  .simp only[joinOk,c2,Bool.false_and,Bool.and_false,Bool.false_eq_true,if_false];simp(disch:=omega) only[f176,eZ,b1,b2,b3,qY Z,qY a3,cG,Option.map_some,e4,e5,c1,c2,cX,C,J]
 | true=>
 obtain⟨H6,e6,p6⟩:=zGM D n N.ok (sep:=sep) (i0.prs N) (c7.prs N) s0 c9;have W:=N.trans p6;have a0:=p6.get N.ok a5;have O:=p6.get N.ok a6;have b0:=p6.get N.ok d1
 cases c3:partedN ltS a sep b with
 | false=>
  obtain⟨i,C,F,_,J⟩:=a4 (l:=[.bool false, .nilSlice, .nilSlice, .nilSlice]) W b0 rfl rfl;refine⟨.agg [.bool false, .nilSlice, .nilSlice, .nilSlice],i, ?_,F, ?_⟩
  rotate_left
  .simp only[joinOk,c3,Bool.false_and,Bool.and_false,Bool.false_eq_true,if_false];exact ZT.zero _ _
  .simp only[joinOk,c3,Bool.false_and,Bool.and_false,Bool.false_eq_true,if_false];simp(disch:=omega) only[f176,eZ,b1,b2,b3,qY Z,qY a3,qY a5,qY a6,cG,Option.map_some,e4,e5,e6,c1,c2,c3,cX,C,J]
 | true=>
 have hj:joinOk a sep b=true:=by simp only[joinOk,c1,c2,c3,Bool.and_self]
 simp only[hj,if_true]
 cases la with
 | true=>
  obtain⟨H7,A7,b7,j,g7,m7,n7⟩:=box W.ok (.cells [ks,a9] 117 1 false);have Y:=W.trans j;obtain⟨H8,A8,b8,q,g8,m8,n8⟩:=box Y.ok (.cells [vs,vs'] 117 1 false);have y:=Y.trans q;obtain⟨w9,H9,e9,z,o9,f9⟩:=zKN D n (cc:=4) y.ok (q.get Y.ok g7) (h1.prs y) (k1.prs y) (by omega) (by omega);have m:=y.trans z;obtain⟨T,d2,b4,K,L,a1⟩:=zKN D n (cc:=4) m.ok (z.get y.ok g8) (h2.prs m) (k2.prs m) (by omega) (by omega);have a2:=m.trans K;have up {t:AH} {o:AObj} {A:Nat} (g:H6.h.get A=some o) (p:Prs H6 t):=p.get W.ok g;have b5:Prs H6 H9:=(j.trans q).trans z;obtain⟨i,C,F,sy,J⟩:=a4 (l:=[.bool true,w9,T, .nilSlice]) a2 (up b0 (b5.trans K)) rfl (by simp only[qW,o9.row.isCell,L.row.isCell];rfl);have d6:U<H8.next:=by have:=p4.next;have:=p5.next;have:=p6.next;have:=j.next;have:=q.next;omega
  have n9:=z.next
  refine⟨.agg [.bool true,w9,T, .nilSlice],i, ?_,F, ?_⟩
  rotate_left
  .have:fC a sep b=⟨true,a.keys++b.keys,a.vals++b.vals,[]⟩:=by simp only[fC,<-a8,if_true]
   rw[this];refine⟨w9,T, .nilSlice,rfl,(o9.mono K (fun _ _ x=>x)).mono sy (fun B f e=>by have:=f9 B f;omega),L.mono sy (fun B f e=>by have:=a1 B f;omega),Own.nil ..,fun B f=> ?_,fun B f=>⟨fun h=> ?_,fun h=>(Blk.nil.1 h).elim⟩,fun B f h=>(Blk.nil.1 h).elim⟩
   .have:=y.next
    rcases f with h | h | h
    .have:=f9 B h;omega
    .have:=a1 B h;omega
    .exact(Blk.nil.1 h).elim
   .have:=a1 B h;have:=Rw.blk o9.row f;omega
  .simp(disch:=omega) only[f176,eZ,b1,b2,b3,qY Z,qY a3,qY a5,qY a6,cG,Option.map_some,e4,e5,e6,c1,c2,c3,qT a0,qT O,qT (up a0 j),qT (up O j),zP4 117 .nilSlice h1.isCell k1.isCell rfl,zP4 117 .nilSlice h2.isCell k2.isCell rfl,b7,b8,e9,
    j8 (qT (up a0 b5) 2) (yL h2),j8 (qT (up O b5) 2) (yL k2),b4,zIO _ o9.row.isCell L.row.isCell,C,J]
 | false=>
  obtain⟨H7,A7,b7,j,g7,m7,n7⟩:=box W.ok (.cells [S sep] 9 1 false);have Y:=W.trans j;obtain⟨H8,A8,b8,q,g8,m8,n8⟩:=box Y.ok (.cells [ks, .slice A7 0 1 2,a9] 117 1 false);have y:=Y.trans q;obtain⟨H9,A9,b9,z,g9,m9,n9⟩:=box y.ok (.cells [ps,c8] 50 1 false);have m:=y.trans z;have d3:Strs H9 (.slice A7 0 1 2) [sep]:=Rw.lit (cc:=2) m.ok (Prs.get (q.trans z) Y.ok g7);obtain⟨T,d2,b4,K,L,a1⟩:=zPP D n (cc:=6) m.ok (z.get y.ok g8) (h1.prs m) d3 (k1.prs m) (by simp only[zO,qD];omega) (by omega);have a2:=m.trans K;obtain⟨b6,f1,d7,c0,c4,c5⟩:=conP2 D n (cc:=4) a2.ok (K.get m.ok g9) (h3.prs a2) (k3.prs a2) (by omega) (by omega);have d8:=a2.trans c0;have up {t:AH} {o:AObj} {A:Nat} (g:H6.h.get A=some o) (p:Prs H6 t):=p.get W.ok g;have a7:Prs H6 d2:=((j.trans q).trans z).trans K;obtain⟨i,C,F,sy,J⟩:=a4 (l:=[.bool false,T, .nilSlice,b6]) d8 (up b0 (a7.trans c0)) rfl (by simp only[qW,L.row.isCell,c4.row.isCell];rfl);have d6:U<H9.next:=by have:=p4.next;have:=p5.next;have:=p6.next;have:=j.next;have:=q.next;have:=z.next;omega
  have f2:=K.next
  refine⟨.agg [.bool false,T, .nilSlice,b6],i, ?_,F, ?_⟩
  rotate_left
  .have:fC a sep b=⟨false,a.keys++([sep]++b.keys),[],a.kids++b.kids⟩:=by simp only[fC,<-a8,Bool.false_eq_true,if_false]
   rw[this];refine⟨T, .nilSlice,b6,rfl,(L.mono c0 (fun _ _ x=>x)).mono sy (fun B f e=>by have:=a1 B f;omega),Own.nil ..,c4.mono sy (fun B f e=>by have:=c5 B f;omega),fun B f=> ?_,fun B f=>⟨fun h=>(Blk.nil.1 h).elim,fun h=> ?_⟩,fun B f=>(Blk.nil.1 f).elim⟩
   .have:=m.next
    rcases f with h | h | h
    .have:=a1 B h;omega
    .exact(Blk.nil.1 h).elim
    .have:=c5 B h;omega
   .have:=c5 B h;have:=Rw.blk L.row f;omega
  .simp(disch:=omega) only[f176,eZ,b1,b2,b3,qY Z,qY a3,qY a5,qY a6,cG,Option.map_some,e4,e5,e6,c1,c2,c3,qT a0,qT O,qT (up O j),qT (up a0 (j.trans q)),qT (up O (j.trans q)),zMT 9 (.str 0 0) (YG sep),b7,
    row3 117 .nilSlice h1.isCell (show isCell (.slice A7 0 1 2)=true from rfl) k1.isCell,zP4 50 .nilSlice h3.isCell k3.isCell rfl,b8,b9,b4,
    j8 (qT (up a0 a7) 3) (yL h3),j8 (qT (up O a7) 3) (yL k3),d7,zO4 L.row.isCell c4.row.isCell,C,J]
end Go.Eng.Sh
end
section
namespace Go.Nd
end Go.Nd
namespace Go.Eng.Sh
open Go.Nd (Ptr sumL cutOk cutA aG)
theorem yE.cells {H:AH}{v:AV}{nd:Nd.Node}(h:yE H v nd): ∃l,v= .agg l/\l.length=4/\qW l=true:=by
 obtain⟨ks,vs,j,rfl,a,f,i⟩:=h;exact⟨_,rfl,rfl,ZS _ _ _ _ a.row.isCell f.row.isCell i.row.isCell⟩
theorem yE.zero (H:AH):yE H (.agg [.bool false, .nilSlice, .nilSlice, .nilSlice]) nd0:=
 ⟨_,_,_,rfl, .inl (Own.nil ..), .inl (Own.nil ..), .inl (Own.nil ..)⟩
theorem wN.zero (N:Nat)(H:AH):wN N H (.agg [.bool false, .nilSlice, .nilSlice, .nilSlice]) nd0:=
 ⟨yE.zero H,fun B a=>by rcases jK.1 a with h | h | h<;>exact(Blk.nil.1 h).elim⟩
theorem cutNo (D:Dyn)(n:Nat)(K:200000000<=n){H:AH}(L:H.ok){v:AV}{nd:Nd.Node}(h:bE H v nd)(N:small nd)(i: ¬(Nd.shaped ltS nd=true/\vY nd)):
  ∃H',f213 D n [v] H=some (.tuple [.agg [.bool false, .nilSlice, .nilSlice, .nilSlice],S [], .agg [.bool false, .nilSlice, .nilSlice, .nilSlice], .int .i64 ((1:Nat):Int)],H')/\Prs H H':=by
 have z:=h;obtain⟨ks,vs,ps,rfl,O,h2,h3⟩:=h;obtain⟨j,m⟩: ∃j,j=nd.leaf:=⟨_,rfl⟩;rw[<-m]at z⊢;obtain⟨H1,H2,H3,T,A1,A2,A4,b1,b2,s,t,u,a⟩:=zCP D n K L m.symm z N;have o1:=a.o1;have o2:=a.o2;have o4:=a.o4;have l4:=a.lt;obtain⟨C,U,V,s5⟩:=a.all2 (l':=[.bool false, .nilSlice, .nilSlice, .nilSlice]) rfl rfl;obtain⟨F,W,f,s6⟩:=V.all4 (l':=[.bool false, .nilSlice, .nilSlice, .nilSlice]) rfl rfl;have o:stN 4 (.ptr A2 0) (.agg [.bool false, .nilSlice, .nilSlice, .nilSlice]) T=some (qX,C):=U;have p:stN 4 (.ptr A4 0) (.agg [.bool false, .nilSlice, .nilSlice, .nilSlice]) C=some (qX,F):=W;have y:=O.lnSl;refine⟨F, ?_,f.prs⟩;have x:(AV.str 0 0)=S []:=rfl
 cases c1:Nd.shaped ltS nd with
 | false=>
  simp(maxSteps:=999999)(disch:=omega) only[f213,eZ,b1,b2,s,qY u.a1,qY a.a1,cG,Option.map_some,t,c1,cX,o,p,qY f.a2,qY f.a4,x]
 | true=>
  have i: ¬vY nd:=fun Y=>i ⟨c1,Y⟩
  by_cases t2:nd.keys.length<2
  .have q:((nd.keys.length:Nat):Int)< ((2:Nat):Int):=by omega
   simp(maxSteps:=999999)(disch:=omega) only[f213,eZ,b1,b2,s,qY u.a1,qY a.a1,cG,Option.map_some,t,c1,qT a.a1,y,q,cX,o,p,qY f.a2,qY f.a4,x]
  .have q: ¬((nd.keys.length:Nat):Int)< ((2:Nat):Int):=by omega
   have Z:j=false:=by
    cases j with
    | false=>rfl
    | true=>exact absurd ⟨by omega, .inl m.symm⟩ i
   have t3:nd.keys.length<3:=by
    rcases Nat.lt_or_ge nd.keys.length 3 with h | h
    .exact h
    .exact absurd ⟨by omega, .inr h⟩ i
   have J:((nd.keys.length:Nat):Int)< ((3:Nat):Int):=by omega
   subst Z;simp(maxSteps:=999999)(disch:=omega) only[f213,eZ,b1,b2,s,qY u.a1,qY a.a1,cG,Option.map_some,t,c1,qT a.a1,y,q,J,cX,o,p,qY f.a2,qY f.a4,x]
theorem zPM (D:Dyn)(n:Nat)(j:200000000<=n){H:AH}(m:H.ok){v:AV}{nd:Nd.Node}(h:yE H v nd)(o:small nd):
  ∃f sep i e H',f213 D n [v] H=some (.tuple [f,S sep,i, .int .i64 ((e:Nat):Int)],H')/\Prs H H'/\
   ((e=0/\ ∃k,Nd.shaped ltS nd=true/\cutOk nd k/\hbnd nd k/\sep=nd.keys.getD k []/\wN H.next H' f (cutA nd k)/\wN H.next H' i (aG nd k))\/
    (e=1/\sep=[]/\ ¬(Nd.shaped ltS nd=true/\vY nd)/\f= .agg [.bool false, .nilSlice, .nilSlice, .nilSlice]/\i= .agg [.bool false, .nilSlice, .nilSlice, .nilSlice])):=by
 by_cases a:Nd.shaped ltS nd=true/\vY nd
 .cases hl:nd.leaf with
  | true=>
   obtain⟨k,f,i,H',e,p,q,s,ok,t⟩:=zNY D n j m h o a.1 a.2 hl;exact⟨f,_,i,0,H',e,p, .inl ⟨rfl,k,a.1,ok,t,rfl,q,s⟩⟩
  | false=>
   obtain⟨k,f,i,H',e,p,q,s,ok,t⟩:=zKL D n j m h o a.1 a.2 hl;exact⟨f,_,i,0,H',e,p, .inl ⟨rfl,k,a.1,ok,t,rfl,q,s⟩⟩
 .obtain⟨H',e,p⟩:=cutNo D n j m h.node o a;exact⟨_,[],_,1,H',e,p, .inr ⟨rfl,rfl,a,rfl,rfl⟩⟩
end Go.Eng.Sh
end
section
namespace Go.Nd
open Go.Eng (ltS yW yS uV vG bH)
abbrev Kvs:=List (Str×Str)
def lookP (k:Str):Kvs->Option Str
 | []=>none
 | (a,b)::l=>if a=k then some b else lookP k l
def putP (k v:Str):Kvs->Kvs
 | []=>[(k,v)]
 | (a,b)::l=>if a=k then(k,v)::l else if ltS a k then(a,b)::putP k v l else(k,v)::(a,b)::l
def delP (k:Str):Kvs->Kvs
 | []=>[]
 | (a,b)::l=>if a=k then l else(a,b)::delP k l
def Srt:Kvs->Prop
 | []=>True
 | (a,_)::l=>(∀p∈l,ltS a p.1=true)/\Srt l
theorem rising_cons {a:Str}{l:List Str} :rising ltS (a::l)=true↔(∀x∈l,ltS a x=true)/\rising ltS l=true:=by
 induction l generalizing a with
 | nil=>simp[rising]
 | cons b l ih=>
  rw[rising,zC];constructor
  .rintro⟨h1,h2⟩
   refine⟨fun x f=> ?_,h2⟩;rcases List.mem_cons.1 f with rfl | f
   .exact h1
   .exact yS h1 ((ih.1 h2).1 x f)
  .rintro⟨h1,h2⟩
   exact⟨h1 b (zF ..),h2⟩
theorem XV: ∀l:Kvs,Srt l↔rising ltS (l.map Prod.fst)=true
 | []=>by simp[Srt,rising]
 | (a,b)::l=>by
  rw[List.map_cons,rising_cons,Srt,XV l];simp only[List.mem_map,forall_exists_index,and_imp];constructor
  .rintro⟨h1,h2⟩;exact⟨fun x p hp e=>e▸h1 p hp,h2⟩
  .rintro⟨h1,h2⟩;exact⟨fun p hp=>h1 _ p hp rfl,h2⟩
theorem look_none {k:Str} : ∀ {l:Kvs},(∀p∈l,p.1≠k)->lookP k l=none
 | [],_=>rfl
 | (a,b)::l,h=>by
  rw[lookP,if_neg (h (a,b) (zF ..))];exact look_none fun p hp=>h p (zE _ hp)
theorem B9 (k v x:Str): ∀l:Kvs,lookP x (putP k v l)=if x=k then some v else lookP x l
 | []=>by
  simp only[putP,lookP];by_cases h:x=k
  .rw[if_pos h.symm,if_pos h]
  .rw[if_neg (fun e=>h e.symm),if_neg h]
 | (a,b)::l=>by
  have i:=B9 k v x l;simp only[putP];split
  .rename_i e;subst e;simp only[lookP];by_cases h:x=a
   .rw[if_pos h.symm,if_pos h]
   .rw[if_neg (fun e=>h e.symm),if_neg h,if_neg (fun e=>h e.symm)]
  .rename_i f;split
   .simp only[lookP,i];by_cases h:x=k
    .subst h;rw[if_neg f,if_pos rfl,if_pos rfl]
    .rw[if_neg h,if_neg h]
   .simp only[lookP];by_cases h:x=k
    .rw[if_pos h.symm,if_pos h]
    .rw[if_neg (fun e=>h e.symm),if_neg h]
theorem mem_put {k v:Str}{p:Str×Str} : ∀ {l:Kvs},p∈putP k v l->p=(k,v)\/p∈l
 | [],h=>by simpa[putP]using h
 | (a,b)::l,h=>by
  simp only[putP]at h;split at h
  .rcases List.mem_cons.1 h with h | h
   .exact .inl h
   .exact .inr (zE _ h)
  .split at h
   .rcases List.mem_cons.1 h with h | h
    .exact .inr (h▸zF ..)
    .rcases mem_put h with h | h
     .exact .inl h
     .exact .inr (zE _ h)
   .rcases List.mem_cons.1 h with h | h
    .exact .inl h
    .exact .inr h
theorem srt_put (k v:Str): ∀ {l:Kvs},Srt l->Srt (putP k v l)
 | [],_=>⟨by simp,trivial⟩
 | (a,b)::l,h=>by
  simp only[putP];split
  .rename_i e;subst e;exact h
  .rename_i j;split
   .rename_i f;refine⟨fun p hp=> ?_,srt_put k v h.2⟩;rcases mem_put hp with rfl | hp
    .exact f
    .exact h.1 p hp
   .rename_i f;have i:ltS k a=true:=by
     cases m:ltS k a with
     | true=>rfl
     | false=>exact absurd (uV (by simpa using f) m) j
    refine⟨fun p hp=> ?_,h⟩;rcases List.mem_cons.1 hp with rfl | hp
    .exact i
    .exact yS i (h.1 p hp)
theorem mem_del {k:Str}{p:Str×Str} : ∀ {l:Kvs},p∈delP k l->p∈l
 | [],h=>h
 | (a,b)::l,h=>by
  simp only[delP]at h;split at h
  .exact zE _ h
  .rcases List.mem_cons.1 h with h | h
   .exact h▸zF ..
   .exact zE _ (mem_del h)
theorem srt_del (k:Str): ∀ {l:Kvs},Srt l->Srt (delP k l)
 | [],_=>trivial
 | (a,b)::l,h=>by
  simp only[delP];split
  .exact h.2
  .exact⟨fun p hp=>h.1 p (mem_del hp),srt_del k h.2⟩
theorem zDC (k x:Str): ∀ {l:Kvs},Srt l->lookP x (delP k l)=if x=k then none else lookP x l
 | [],_=>by simp[delP,lookP]
 | (a,b)::l,h=>by
  have j:=zDC k x h.2;simp only[delP];split
  .rename_i e;subst e;by_cases f:x=a
   .rw[if_pos f,look_none];intro p hp e;subst f;exact bH (h.1 p hp) e.symm
   .rw[if_neg f,lookP,if_neg (fun e=>f e.symm)]
  .rename_i i;simp only[lookP,j];by_cases f:x=k
   .subst f;rw[if_neg i,if_pos rfl,if_pos rfl]
   .rw[if_neg f,if_neg f]
def whereN (n:Node)(key:Str):Nat:=(n.keys.filter fun k=>ltS k key||(!n.leaf&&decide (k=key))).length
theorem whereN_le (n:Node)(key:Str):whereN n key<=n.keys.length:=List.length_filter_le _ _
def leafOf (l:Kvs):Node:=⟨true,l.map Prod.fst,l.map Prod.snd,[]⟩
theorem where_cons {a b key:Str}{l:Kvs}(h:Srt ((a,b)::l)):whereN (leafOf ((a,b)::l)) key=if ltS a key then whereN (leafOf l) key+1 else 0:=by
 simp only[whereN,leafOf,List.map_cons,Bool.not_true,Bool.false_and,Bool.or_false]
 cases hl:ltS a key with
 | true=>simp[hl]
 | false=>
  rw[List.filter_cons,hl];simp only[Bool.false_eq_true,if_false];rw[List.length_eq_zero_iff,List.filter_eq_nil_iff];intro x i f;obtain⟨p,hp,rfl⟩:=List.mem_map.1 i;have:=yS (h.1 p hp) f;rw[hl]at this;cases this
def hereN (n:Node)(key:Str):Bool:=decide (whereN n key<n.keys.length)&&decide (n.keys.getD (whereN n key) []=key)
theorem here_look (key:Str): ∀ {l:Kvs},Srt l->hereN (leafOf l) key=(lookP key l).isSome
 | [],_=>by simp[hereN,leafOf,lookP]
 | (a,b)::l,h=>by
  have f:=here_look key h.2;have j:(leafOf ((a,b)::l)).keys=a::(leafOf l).keys:=rfl;simp only[hereN,where_cons h,lookP,j]at f⊢
  cases hl:ltS a key with
  | true=>
   have i:a≠key:=bH hl;simp only[if_true,if_neg i,zO,Nat.add_lt_add_iff_right,List.getD_cons_succ];exact f
  | false=>
   simp only[Bool.false_eq_true,if_false,zO,List.getD_cons_zero,Nat.zero_lt_succ,decide_true,Bool.true_and];by_cases e:a=key
   .simp[e]
   .rw[if_neg e,look_none]
    .simp[e]
    .intro p hp m;have:=h.1 p hp;rw[m,hl]at this;cases this
def zJW (n:Node)(key value:Str):Node:=
 if hereN n key then⟨true,n.keys,n.vals.set (whereN n key) value,[]⟩
 else⟨true,n.keys.take (whereN n key)++[key]++n.keys.drop (whereN n key),n.vals.take (whereN n key)++[value]++n.vals.drop (whereN n key),[]⟩
def zOC (n:Node)(key:Str):Node:=⟨true,n.keys.take (whereN n key)++n.keys.drop (whereN n key+1),n.vals.take (whereN n key)++n.vals.drop (whereN n key+1),[]⟩
theorem put_leaf (key value:Str): ∀ {l:Kvs},Srt l->zJW (leafOf l) key value=leafOf (putP key value l)
 | [],_=>by simp[zJW,hereN,leafOf,putP,whereN]
 | (a,b)::l,h=>by
  have f:=put_leaf key value h.2;have j:=here_look key h;have i:=here_look key h.2;simp only[zJW,j,i,where_cons h,lookP,putP]at f⊢;by_cases e:a=key
  .subst e;simp[yW,leafOf]
  .rw[if_neg e,if_neg e]
   cases hl:ltS a key with
   | true=>
    simp only[if_true];have g: ∀(q:Kvs),leafOf ((a,b)::q)=⟨true,a::(leafOf q).keys,b::(leafOf q).vals,[]⟩:=fun q=>rfl
    rw[g (putP key value l),<-f,g l];split
    .simp
    .simp
   | false=>
    have:lookP key l=none:=look_none fun p hp m=>by have:=h.1 p hp;rw[m,hl]at this;cases this
    rw[this];simp[leafOf]
theorem del_leaf (key:Str): ∀ {l:Kvs},Srt l->hereN (leafOf l) key=true->zOC (leafOf l) key=leafOf (delP key l)
 | [],_,h=>by simp[hereN,leafOf]at h
 | (a,b)::l,h,hr=>by
  have i:=here_look key h;have f:=here_look key h.2;rw[i]at hr;simp only[zOC,where_cons h,delP];by_cases e:a=key
  .subst e;simp[yW,leafOf]
  .simp only[lookP,if_neg e]at hr;rw[if_neg e];have hl:ltS a key=true:=by
    cases hl:ltS a key with
    | true=>rfl
    | false=>
     have:lookP key l=none:=look_none fun p hp j=>by have:=h.1 p hp;rw[j,hl]at this;cases this
     rw[this]at hr;cases hr
   have m:=del_leaf key h.2 (f.trans hr);simp only[hl,if_true];have g: ∀(q:Kvs),leafOf ((a,b)::q)=⟨true,a::(leafOf q).keys,b::(leafOf q).vals,[]⟩:=fun q=>rfl
   rw[g (delP key l),<-m,g l];simp[zOC]
def getN (n:Node)(key:Str):Option Str:=if n.leaf then lookP key (n.keys.zip n.vals)else none
theorem get_leaf (key:Str)(l:Kvs):getN (leafOf l) key=lookP key l:=by
 simp only[getN,leafOf,if_true];congr 1
 induction l with
 | nil=>rfl
 | cons p l ih=>simp[ih]
theorem leaf_shaped {l:Kvs}(h:Srt l)(a: ∀p∈l,mayK p.1=true/\p.2.length<=200):shaped ltS (leafOf l)=true:=by
 simp only[shaped,leafOf,if_true,zC,zJ,List.all_eq_true,List.mem_map,forall_exists_index,and_imp,qM,true_and];exact⟨⟨fun x p hp e=>e▸(a p hp).1,(XV l).1 h⟩,fun x p hp e=>e▸(a p hp).2⟩
end Go.Nd
namespace Go.Eng.Sh
open Go.Nd (Ptr sumL cutOk cutA aG whereN getN lookP)
theorem zCt {f:Str->Bool}(l:List Str){i:Nat}(h:i<l.length):((l.take (i+1)).filter f).length=((l.take i).filter f).length+if f (l.getD i [])then 1 else 0:=by
 rw[zU h,List.filter_append,zL,wK h];congr 1
 cases a:f l[i]<;>simp[a]
theorem aI (D:Dyn)(n:Nat)(U:200000000<=n){H:AH}(J:H.ok){v:AV}{nd:Nd.Node}{key:Str}(h:bE H v nd)(K:small nd):
  ∃H',f79 D n [v,S key] H=some (.int .i64 (whereN nd key:Nat),H')/\Prs H H':=by
 obtain⟨ks,vs,L,rfl,y,V,W⟩:=h;obtain⟨a,u⟩: ∃a,a=nd.leaf:=⟨_,rfl⟩;rw[<-u];have T:=Nd.sumL_ge nd.keys;obtain⟨Y,Z,s3⟩:=K;obtain⟨t,A1,b1,z,o,m1,n1⟩:=box J (.cells [.bool a,ks,vs,L] 119 1 false);have N:=y.prs z;have O:yF n (YL D n) [S key, .ptr A1 0, .int .i64 ((0:Nat):Int),ks, .int .i64 (nd.keys.length:Nat), .int .i64 ((0:Nat):Int)] t=some (.exit 0 [.int .i64 (whereN nd key:Nat)],t):=by
  refine kH (fun i=>[S key, .ptr A1 0, .int .i64 ((((nd.keys.take i).filter fun k=>ltS k key||(!nd.leaf&&decide (k=key))).length:Nat):Int),ks, .int .i64 (nd.keys.length:Nat), .int .i64 (i:Nat)]) nd.keys.length ?_ ?_ n (by omega)
  .intro i hi;obtain⟨p,q,f⟩:=N.at hi;rw[<-wK (d:=[])]at f;have j:((i:Nat):Int)< ((nd.keys.length:Nat):Int):=by omega
   rw[zCt nd.keys hi,<-u];have F:((nd.keys.take i).filter fun k=>ltS k key||(!a&&decide (k=key))).length<=nd.keys.length:=Nat.le_trans (List.length_filter_le _ _) (by rw[zQ];omega);generalize((nd.keys.take i).filter fun k=>ltS k key||(!a&&decide (k=key))).length=c at F;generalize nd.keys.getD i []=x at f
   cases s:ltS x key with
   | true=>simp(disch:=omega) only[YL,KK,eZ,j,q,f,s,Int.natCast_add]
   | false=>
    cases a with
    | true=>simp(disch:=omega) only[YL,KK,eZ,j,q,f,s,qT o,Int.natCast_add,Nat.add_zero]
    | false=>
     by_cases C:x=key
     .subst C;simp(disch:=omega) only[YL,KK,eZ,j,q,f,s,qT o,Int.natCast_add]
     .simp(disch:=omega) only[YL,KK,eZ,j,q,f,s,qT o,C,Int.natCast_add,Nat.add_zero]
  .intro m;refine y7 ?_;rw[qJ];simp only[YL,eZ,qB,whereN]
 refine⟨t, ?_,z⟩;simp only[f79,eZ,b1,qT o,y.lnSl,O,zF6]
end Go.Eng.Sh
end
section
namespace Go.Eng
theorem YT {k e n:Nat}{H:AH}{v:AV}{l:List AV}(h:yV k e H v n l)(j:0<k)(u:0<n)(κ:IntKind):
  ∃r,wR k v (some (.int κ (n:Nat))) none none H=some r/\Rw k H r 0 []:=by
 have i:=yK κ (z:=((n:Nat):Int)) (by omega);simp only[qA]at i;have hb:Nat.blt 0 k=true:=by rw[zR];exact j
 have b1:Nat.ble n n=true:=by rw[q9];exact Nat.le_refl _
 have b2:Nat.blt n n=false:=by rw[Bool.eq_false_iff];intro h;rw[zR]at h;omega
 have p:Nat.beq n 0=false:=by rw[Bool.eq_false_iff];intro h;have:=Nat.eq_of_beq_eq_true h;omega
 rcases h with⟨m,⟨rfl,rfl⟩ | ⟨A,rfl,o,a⟩⟩ | ⟨m,A,q,g,rfl,o,a,t⟩
 .omega
 .have f:yN l true k 0 1 k=n:=by
   simp only[yN,show((1 % 2).beq 0)=false from rfl,cond_false,Nat.beq_refl,show Nat.beq 0 (1 / 2*k)=true from by simp,Bool.and_self,cond_true,yA,m,Nat.sub_zero];exact Nat.mul_div_cancel _ j
  refine⟨.emptySl, ?_,⟨by simp, .inr (.inl ⟨rfl,rfl⟩)⟩⟩;simp only[wR,yZ,i,a,hb,cond_true];simp[YQ,f,b1,b2,p,show Nat.beq 1 0=false from rfl]
 .have f:yN l g k 0 (2*n) k=n:=by
   simp only[yN,show((2*n) % 2).beq 0=true by rw[Nat.mul_mod_right];rfl,cond_true,Nat.mul_div_cancel_left n (show 0<2 by omega)]
  have s:Nat.beq (2*n / 2) n=true:=by rw[Nat.mul_div_cancel_left n (show 0<2 by omega),Nat.beq_refl]
  refine⟨.slice A 0 0 (2*(2*n / 2 - n)), ?_,⟨by simp, .inr (.inr ⟨A,0,_,l,q,k,g,rfl,a,o,by omega,by simp⟩)⟩⟩;simp only[wR,yZ,i,a,hb,cond_true];simp[YQ,f,b1,s,yG]
end Go.Eng
namespace Go.Eng.Sh
open Go.Nd (Ptr sumL)
theorem zBz (D:Dyn)(n:Nat){H:AH}(j:H.ok){v:AV}{l:List Str}(h:yV 1 9 H v l.length (l.map S))(hl:l.length<=1000000000):
  ∃a H',f108 D n [v] H=some (a,H')/\Prs H H'/\yV 1 9 H' a l.length (l.map S)/\(∀B,Blk a B->H.next<=B)/\(0<l.length->Own 1 9 H' a l.length (l.map S)):=by
 have hr:=h.row;by_cases s:v= .nilSlice
 .subst s;have z:l=[]:=by
   rcases h with⟨_,⟨_,i⟩ | ⟨A,i,_⟩⟩ | ⟨_,A,_,_,i,_⟩
   .exact zM i
   .cases i
   .cases i
  subst z;refine⟨.nilSlice,H, ?_,Stp.refl j, .inl (Own.nil ..),fun B t=>(Blk.nil.1 t).elim,fun h=>absurd h (by simp)⟩;have q:bW .eql (eqS .nilSlice .nilSlice)=some (.bool true):=rfl;simp only[f108,eZ,q]
 .have C:v≠ .emptySl:=by
   rcases h with⟨_,⟨rfl,_⟩ | ⟨A,rfl,_⟩⟩ | ⟨_,A,_,_,rfl,_⟩<;>simp
  by_cases i:l.length=0
  .obtain⟨a,H',e,p,g,f⟩:=ZN D n j hr s C hl;exact⟨a,H',e,p,g,f,fun h=>absurd h (by omega)⟩
  .have o:Prs H (H.push (.cells [] 9 1 false)):=(Stp.refl j).push _;have u:(H.push (.cells [] 9 1 false)).h.get H.next=some (.cells [] 9 1 false):=AH.push_get_eq _ _
   have K:(H.push (.cells [] 9 1 false)).next=H.next+1:=rfl
   generalize F:H.push (.cells [] 9 1 false)=H1 at o u K;have L:=WV (k:=1) (e:=9) (bytes:=16) (n:=0) (m:=l.length) (off:=0) (new:=l.map S) o.ok u (by simp) (by omega) (by omega) (by decide);have x:apP 9 1 16 (.slice H.next 0 0 0) v H1=some (.slice H1.next 0 (0+l.length) 1,H1.push (.cells (([]:List AV).drop 0 |>.take (0*1) |> (· ++l.map S)) 9 1 true)):=by
    simp only[apP,(hr.prs o).srcOf,wH,cond_true];exact L
   have J:d7 9 1 0 [.str 0 0] []=some (.cells [] 9 1 false,fun A=> .slice A 0 0 0):=rfl;have q:bW .eql (eqS v .nilSlice)=some (.bool false):=by
    rcases h with⟨_,⟨rfl,_⟩ | ⟨A,rfl,_⟩⟩ | ⟨_,A,_,_,rfl,_⟩
    .exact absurd rfl s
    .rfl
    .rfl
   simp only[List.drop_nil,List.take_nil,List.nil_append,Nat.zero_add]at x;have y:Own 1 9 (H1.push (.cells (l.map S) 9 1 true)) (.slice H1.next 0 l.length 1) l.length (l.map S):=⟨by simp, .inr ⟨_,rfl,Nat.lt_succ_self _,AH.push_get_eq _ _⟩⟩
   refine⟨.slice H1.next 0 l.length 1,H1.push (.cells (l.map S) 9 1 true), ?_,o.push _, .inl y,fun B t=>by rw[Blk.slice.1 t];omega,fun _=>y⟩
   simp only[f108,eZ,q,J,yU j,F,x]
theorem zBb (D:Dyn)(n:Nat){H:AH}(m:H.ok){v:AV}{l:List Str}{i B:Nat}{x:Str}(h:yV 1 9 H v l.length (l.map S))(N:0<l.length->Own 1 9 H v l.length (l.map S))(hi:i<=l.length)(hl:l.length<=200000000)(q:H.h.get B=some (.cells [S x] 9 1 false)):
  ∃a H',zNg D n [v, .int .i64 (i:Nat), .slice B 0 1 2] H=some (a,H')/\Stp (Blk v) H H'/\yV 1 9 H' a (l.take i++[x]++l.drop i).length ((l.take i++[x]++l.drop i).map S)/\ ∀C,Blk a C->Blk v C\/H.next<=C:=by
 have O:Strs H (.slice B 0 1 2) [x]:=Rw.lit (cc:=2) m q;have l1:lnSl (.slice B 0 1 2)=some (.int .i64 ((1:Nat):Int)):=rfl;have o: ¬((1:Nat):Int)=((0:Nat):Int):=by omega
 by_cases J:i=l.length
 .subst J;have T: ∃r,wR 1 v (some (.int .i64 (l.length:Nat))) none none H=some r:=by
   by_cases s:0<l.length
   .obtain⟨r,e,_⟩:=YT h (by decide) s .i64;exact⟨r,e⟩
   .have f:l.length=0:=by omega
    rw[f];rcases h with⟨_,⟨rfl,_⟩ | ⟨A,rfl,_,j⟩⟩ | ⟨_,A,e',g,rfl,_,j,_⟩
    .exact⟨.nilSlice,rfl⟩
    .rw[f];have:l=[]:=zM f;subst this;exact⟨.slice A 0 0 1,by simp[wR,yZ,yK,j,YQ,yG,yN,show Nat.blt 0 1=true from rfl,show Nat.ble 0 0=true from rfl,show Nat.beq 1 0=false from rfl,show Nat.beq 0 0=true from rfl,QB,show Nat.beq 1 1=true from rfl,dO,bne]⟩
    .rw[f];have:l=[]:=zM f;subst this;exact⟨.slice A 0 0 0,by simp[wR,yZ,yK,j,YQ,yG,yN,show Nat.blt 0 1=true from rfl,show Nat.ble 0 0=true from rfl,show Nat.beq 0 0=true from rfl,QB]⟩
  obtain⟨r,hr⟩:=T;obtain⟨a,H',U,V,W,Y⟩:=h.app (bytes:=16) m (by decide) O.srcOf (by simp) (wH _) (by simp;omega) (by decide);refine⟨a,H', ?_,W,by simpa using V,Y⟩;have:f138 D n [v, .int .i64 (l.length:Nat), .slice B 0 1 2] H=some (a,H'):=by
   simp only[f138,eZ,hr,l1,o,h.row.lnSl,U]
  show zNs (f138 D n) _ H=_;simp only[zNs,this]
 .have p:i<l.length:=by omega
  have Z:=N (by omega);obtain⟨_,⟨_,s⟩ | ⟨A,rfl,t,j⟩⟩:=id Z
  .omega
  .obtain⟨r,hr,_⟩:=Q1 h (by decide) p .i64;have u: ¬((i:Nat):Int)=((l.length:Nat):Int):=by omega
   have y:zOb X 117 (.slice A 0 l.length 1)=none:=rfl;have K:f138 D n [.slice A 0 l.length 1, .int .i64 (i:Nat), .slice B 0 1 2] H=none:=by
    simp(disch:=omega) only[f138,eZ,hr,l1,o,h.row.lnSl,u,y];rfl
   have b1:Nat.blt i l.length=true:=by rw[zR];exact p
   have b2:Nat.ble ((l.length+1)*16) 140737488355328=true:=by rw[q9];omega
   have L:(H.put A .dead).ok:=m.put t _;refine⟨.slice (H.put A .dead).next 0 (l.length+1) 1,(H.put A .dead).push (.cells ((l.map S).take i++[S x]++(l.map S).drop i) 9 1 true), ?_,((Stp.refl m).put t _ (.inr (Blk.slice.2 rfl))).push _, ?_,fun C hC=> .inr (by rw[Blk.slice.1 hC];exact Nat.le_refl _)⟩
   .show zNs (f138 D n) _ H=_;simp only[zNs,K];show zOu 9 [.slice A 0 l.length 1, .int .i64 (.ofNat i), .slice B 0 1 2] H=_;simp only[zOu,j,q,b1,b2,wH,yA,qM,Nat.beq_refl,show Nat.blt 0 1=true from rfl,show Nat.beq 1 1=true from rfl,show Nat.beq 0 0=true from rfl,show Nat.beq 9 9=true from rfl,Bool.and_self,Bool.not_false,cond_true,xX,takeN,qW,YG,yQ,dI,cN L,yG]
   .have z:(l.take i++[x]++l.drop i).length=l.length+1:=by simp;omega
    have F:(l.take i++[x]++l.drop i).map S=(l.map S).take i++[S x]++(l.map S).drop i:=by simp
    rw[z,F];exact .inl ⟨by simp;omega, .inr ⟨_,rfl,Nat.lt_succ_self _,AH.push_get_eq _ _⟩⟩
end Go.Eng.Sh
end
section
namespace Go.Eng
theorem Own.set1 {e:Nat}{H:AH}{v:AV}{l:List Str}(f:H.ok)(h:Own 1 e H v l.length (l.map S)){i:Nat}(hi:i<l.length)(x:Str):
  ∃p H',(∀κ (z:Int),z=(i:Int)->hU 1 v (.int κ z)=some p)/\stN 1 p (S x) H=some (qX,H')/\Own 1 e H' v (l.set i x).length ((l.set i x).map S)/\Stp (Blk v) H H':=by
 obtain⟨o,⟨_,q⟩ | ⟨A,rfl,a,j⟩⟩:=h
 .omega
 .have hb:Nat.blt i l.length=true:=by rw[zR];exact hi
  refine⟨.ptr A (0+i*1),_,fun κ z m=> ?_,bF j (by decide) (YG x) (by simpa using hi),⟨by simp, .inr ⟨A,by simp,a,by rw[AH.put_get,if_pos rfl];simp[List.map_set]⟩⟩,(Stp.refl f).put a _ (.inr (Blk.slice.2 rfl))⟩;subst m;simp only[hU,yK κ (show(0:Int)<=(i:Int)by omega),qA,hb,cond_true,yG]
end Go.Eng
namespace Go.Eng.Sh
open Go.Nd (Ptr sumL whereN hereN zJW)
def zEN (nd:Nd.Node)(key value:Str):Bool:=Nd.shaped ltS nd&&nd.leaf&&Nd.mayK key&&decide (value.length<=200)
theorem zJV (D:Dyn)(n:Nat)(hn:200000000<=n){H:AH}(hk:H.ok){v:AV}{nd:Nd.Node}{key value:Str}(h:yE H v nd)(hs:small nd):
  ∃u H',f89 D n [v,S key,S value] H=some (.tuple [u, .int .i64 ((if zEN nd key value then 0 else 1:Nat):Int)],H')/\Prs H H'/\wN H.next H' u (if zEN nd key value then zJW nd key value else nd0):=by
 have i0:=h.node;obtain⟨ks,vs,ps,rfl,h1,h2,h3⟩:=h;have h9:=Nd.sumL_ge nd.keys;have i5:=Nd.sumL_ge nd.vals;have s0:=hs;obtain⟨s1,s2,s3⟩:=hs;obtain⟨la,b0⟩: ∃la,la=nd.leaf:=⟨_,rfl⟩;obtain⟨po,t⟩: ∃po,po=zEN nd key value:=⟨_,rfl⟩;rw[<-t,<-b0];rw[<-b0]at i0;simp only[zEN,<-b0]at t;obtain⟨H1,A1,b1,p1,g1,m1,n1⟩:=box hk (.cells [.bool la,ks,vs,ps] 119 1 false);obtain⟨H2,A2,b2,p2,g2,m2,n2⟩:=box p1.ok (.cells [.bool false, .nilSlice, .nilSlice, .nilSlice] 119 1 false);have P2:Prs H H2:=p1.trans p2;have T:=p2.get p1.ok g1;obtain⟨y,Z,p4⟩:=vD D n P2.ok (i0.prs P2) s0 hn;have F:=P2.trans p4;have U:=p4.get P2.ok T;have d0:=p4.get P2.ok g2;obtain⟨Hr,er,gr,sr,nr⟩:=y9 F.ok d0 (l':=[.bool false, .nilSlice, .nilSlice, .nilSlice]) rfl rfl;have b3:stN 4 (.ptr A2 0) (.agg [.bool false, .nilSlice, .nilSlice, .nilSlice]) y=some (qX,Hr):=er;have Pr:Prs H Hr:=F.fresh sr (fun B a=>by omega);have lr:=vU gr rfl
 cases c1:Nd.shaped ltS nd with
 | false=>
  simp only[c1,Bool.false_and,Bool.and_false]at t;subst t;refine⟨.agg [.bool false, .nilSlice, .nilSlice, .nilSlice],Hr, ?_,Pr,wN.zero _ _⟩;simp only[Bool.false_eq_true,if_false];simp(maxSteps:=999999)(disch:=omega) only[f89,eZ,b1,b2,qY T,cG,Option.map_some,Z,c1,cX,b3,lr]
 | true=>
 cases la with
 | false=>
  simp only[Bool.false_and,Bool.and_false]at t;subst t;refine⟨.agg [.bool false, .nilSlice, .nilSlice, .nilSlice],Hr, ?_,Pr,wN.zero _ _⟩;simp only[Bool.false_eq_true,if_false];simp(maxSteps:=999999)(disch:=omega) only[f89,eZ,b1,b2,qY T,cG,Option.map_some,Z,c1,qT U,cX,b3,lr]
 | true=>
 cases c2:Nd.mayK key with
 | false=>
  simp only[c2,Bool.false_and,Bool.and_false]at t;subst t;refine⟨.agg [.bool false, .nilSlice, .nilSlice, .nilSlice],Hr, ?_,Pr,wN.zero _ _⟩;simp only[Bool.false_eq_true,if_false];simp(maxSteps:=999999)(disch:=omega) only[f89,eZ,b1,b2,qY T,cG,Option.map_some,Z,c1,qT U,j7,c2,cX,b3,lr]
 | true=>
 by_cases c3:value.length<=200
 case neg=>
  have a1:((200:Nat):Int)< ((value.length:Nat):Int):=by omega
  simp only[c3,decide_false,Bool.and_false]at t;subst t;refine⟨.agg [.bool false, .nilSlice, .nilSlice, .nilSlice],Hr, ?_,Pr,wN.zero _ _⟩
  .simp only[Bool.false_eq_true,if_false];simp(maxSteps:=999999)(disch:=omega) only[f89,eZ,b1,b2,qY T,cG,Option.map_some,Z,c1,qT U,j7,c2,a1,cX,b3,lr]
 case pos=>
 have a1: ¬((200:Nat):Int)< ((value.length:Nat):Int):=by omega
 simp only[c1,c2,c3,decide_true,Bool.and_self]at t;subst t;simp only[if_true];have i6:nd.vals.length=nd.keys.length:=by
  simp only[Nd.shaped,<-b0,if_true,zC,zJ]at c1;exact c1.2.1.1
 obtain⟨H5,N,b5,p5,g5,m5,n5⟩:=box F.ok (.cells [.bool false, .nilSlice, .nilSlice, .nilSlice] 119 1 false);have P5:=F.trans p5;have up1 {f:AH} (p:Prs y f):=Prs.get p F.ok U;have up2 {f:AH} (p:Prs y f):=Prs.get p F.ok d0;have q1 {f:AH} (p:Prs H f):yV 1 9 f ks nd.keys.length (nd.keys.map S):=h1.mono p (fun _ _ x=>x);have q2 {f:AH} (p:Prs H f):yV 1 9 f vs nd.vals.length (nd.vals.map S):=h2.mono p (fun _ _ x=>x);obtain⟨C,H6,e6,p6,o6,f6,t6⟩:=zBz D n P5.ok (q1 P5) (by omega);have P6:=P5.trans p6;obtain⟨j,H7,e7,p7,o7,f7,t7⟩:=zBz D n P6.ok (q2 P6) (by omega);have P7:=P6.trans p7;obtain⟨H8,e8,g8,s8,n8⟩:=y9 P7.ok (Prs.get (p6.trans p7) P5.ok g5) (l':=[.bool true,C,j, .nilSlice]) rfl (by simp only[qW,o6.row.isCell,o7.row.isCell];rfl);have b7:stN 4 (.ptr N 0) (.agg [.bool true,C,j, .nilSlice]) H7=some (qX,H8):=e8;have N6:=p6.next
 have N7:=p7.next
 have f2:Prs y H7:=(p5.trans p6).trans p7;have a2:Prs y H8:=f2.fresh s8 (fun B a=>by omega);have P8:=F.trans a2;have k1:yV 1 9 H8 C nd.keys.length (nd.keys.map S):=(o6.mono p7 (fun _ _ x=>x)).mono s8 (fun B a e=>by have:=f6 B a;omega);have k2:yV 1 9 H8 j nd.vals.length (nd.vals.map S):=o7.mono s8 (fun B a e=>by have:=f7 B a;omega);have V: ∀B,Blk C B->N<B/\B<H6.next:=fun B a=>⟨by have:=f6 B a;omega,o6.lt a⟩
 have m: ∀B,Blk j B->H6.next<=B/\B<H8.next:=fun B a=>⟨f7 B a,k2.lt a⟩
 obtain⟨H9,e9,J⟩:=aI D n hn P8.ok (key:=key) (i0.prs P8) s0;have P9:=P8.trans J;have a3:Prs y H9:=a2.trans J;have a4:=J.get P8.ok g8;have f3:=Nd.whereN_le nd key;have b8:=h1.row.lnSl;have N9:=J.next
 have N5:=p5.next
 have N4:=p4.next
 have d1: ∀ {f:AH} {l:List AV},Prs H f->f.h.get A2=some (.cells [.bool false, .nilSlice, .nilSlice, .nilSlice] 119 1 false)->l.length=4->qW l=true-> ∃O,stN 4 (.ptr A2 0) (.agg l) f=some (qX,O)/\Prs H O/\Stp (fun B=>B=A2) f O/\ldN 4 (.ptr A2 0) O=some (.agg l):=fun {f l} px hg hl hc=>by
  obtain⟨O,e,g,s,_⟩:=y9 px.ok hg hl hc;have e':stN 4 (.ptr A2 0) (.agg l) f=some (qX,O):=e;exact⟨O,e',px.fresh s (fun B a=>by omega),s,vU g hl⟩
 obtain⟨W,B1,d2,K,f4,i7,i8⟩:=box P9.ok (.cells [S key] 9 1 false);have f5:Prs y W:=a3.trans K;have f8:0<nd.keys.length->Own 1 9 W C nd.keys.length (nd.keys.map S):=fun h=>(((t6 h).mono p7 (fun _ _ x=>x)).mono s8 (fun B a e=>by have:=f6 B a;omega)).mono (J.trans K) (fun _ _ x=>x)
 obtain⟨z,d3,d4,a5,b9,f9⟩:=zBb D n K.ok (k1.mono (J.trans K) (fun _ _ x=>x)) f8 f3 (by omega) (x:=key) f4;have g0:d3.h.get N=some (.cells [.bool true,C,j, .nilSlice] 119 1 false):=by rw[a5.keep _ (by have:=K.next;omega) (fun a=>by have:=V _ a;omega)];exact K.get P9.ok a4
 have d5:Prs y d3:=f5.fresh a5 (fun B a=>by have:=V B a;omega);obtain⟨d6,d7,a0,a6,i9⟩:=kK d5.ok g0 (o:=1) (x:=z) b9.row.isCell (by simp);have a0:d6.h.get N=some (.cells [.bool true,z,j, .nilSlice] 119 1 false):=a0;have c0:Prs y d6:=d5.fresh a6 (fun B a=>by omega);obtain⟨c4,B2,d8,Y,g3,j0,j3⟩:=box c0.ok (.cells [S value] 9 1 false);have g4:Prs y c4:=c0.trans Y;have d9: ∀B,Blk j B-> ¬Blk C B:=fun B a a7=>by have:=V B a7;have:=m B a;omega
 have g6:yV 1 9 c4 j nd.vals.length (nd.vals.map S):=(((k2.mono (J.trans K) (fun _ _ x=>x)).mono a5 d9).mono a6 (fun B a e=>by have:=m B a;omega)).mono Y (fun _ _ x=>x);have g7:0<nd.vals.length->Own 1 9 c4 j nd.vals.length (nd.vals.map S):=fun h=>(((((t7 h).mono s8 (fun B a e=>by have:=f7 B a;omega)).mono (J.trans K) (fun _ _ x=>x)).mono a5 d9).mono a6 (fun B a e=>by have:=m B a;omega)).mono Y (fun _ _ x=>x)
 obtain⟨L,e0,e1,c5,c6,g9⟩:=zBb D n Y.ok g6 g7 (i:=whereN nd key) (by omega) (by omega) (x:=value) g3;have j4:=K.next
 have j5:=a5.next
 have j6:=a6.next
 have j9:=Y.next
 have h0:e0.h.get N=some (.cells [.bool true,z,j, .nilSlice] 119 1 false):=by rw[c5.keep _ (by omega) (fun a=>by have:=m _ a;omega)];exact Y.get c0.ok a0
 have e2:Prs y e0:=g4.fresh c5 (fun B a=>by have:=m B a;omega);obtain⟨e3,e5,b4,c7,k0⟩:=kK e2.ok h0 (o:=2) (x:=L) c6.row.isCell (by simp);have b4:e3.h.get N=some (.cells [.bool true,z,L, .nilSlice] 119 1 false):=b4;have f1:Prs y e3:=e2.fresh c7 (fun B a=>by omega);have h4:qW [.bool true,z,L, .nilSlice]=true:=by simp only[qW,b9.row.isCell,c6.row.isCell];rfl
 obtain⟨Hz,ez,Pz,sz,lz⟩:=d1 (l:=[.bool true,z,L, .nilSlice]) (F.trans f1) (up2 f1) rfl h4;have a8: ∀B,Blk z B->N<B/\(B<H6.next\/W.next<=B):=fun B a=>by
  rcases f9 B a with h | h
  .have:=V B h;omega
  .omega
 have c8: ∀B,Blk L B->N<B:=fun B a=>by
  rcases g9 B a with h | h
  .have:=m B h;omega
  .omega
 have k3:=F.next
 have rz:wN H.next Hz (.agg [.bool true,z,L, .nilSlice]) ⟨true,nd.keys.take (whereN nd key)++[key]++nd.keys.drop (whereN nd key),nd.vals.take (whereN nd key)++[value]++nd.vals.drop (whereN nd key),[]⟩:=
  ⟨⟨z,L, .nilSlice,rfl,((((b9.mono a6 (fun B a e=>by have:=a8 B a;omega)).mono Y (fun _ _ x=>x)).mono c5 (fun B a a7=>by have:=a8 B a;have:=m B a7;omega)).mono c7 (fun B a e=>by have:=a8 B a;omega)).mono sz (fun B a e=>by have:=a8 B a;omega),
   (c6.mono c7 (fun B a e=>by have:=c8 B a;omega)).mono sz (fun B a e=>by have:=c8 B a;omega), .inl (Own.nil ..)⟩,fun B a=>by
     rcases jK.1 a with h | h | h
     .have:=a8 B h;omega
     .have:=c8 B h;omega
     .exact(Blk.nil.1 h).elim⟩
 by_cases c9:whereN nd key<nd.keys.length
 .obtain⟨q,j1,j2⟩:=(q1 P9).row |> (fun(r:Strs H9 ks nd.keys)=>r.at c9);rw[<-wK (d:=[])]at j2;have a9:((whereN nd key:Nat):Int)< ((nd.keys.length:Nat):Int):=by omega
  by_cases b6:nd.keys.getD (whereN nd key) []=key
  .have hh:hereN nd key=true:=by simp only[hereN,b6,decide_true,Bool.and_true,zJ];exact c9
   rw[b6]at j2;have h5:=(t7 (by omega)).mono s8 (fun B a e=>by have:=f7 B a;omega);obtain⟨p,W,i1,i2,i3,i4⟩:=Own.set1 P9.ok (h5.mono J (fun _ _ x=>x)) (i:=whereN nd key) (by omega) value;have h6:Prs H W:=P9.fresh i4 (fun B a=>by have:=m B a;have:=P5.next;omega)
   have h7:W.h.get N=some (.cells [.bool true,C,j, .nilSlice] 119 1 false):=by rw[i4.keep _ (by omega) (fun a=>by have:=m _ a;omega)];exact a4
   have h8:W.h.get A2=some (.cells [.bool false, .nilSlice, .nilSlice, .nilSlice] 119 1 false):=by rw[i4.keep _ (by omega) (fun a=>by have:=m _ a;omega)];exact up2 a3
   obtain⟨O,ey,Py,sy,ly⟩:=d1 (l:=[.bool true,C,j, .nilSlice]) h6 h8 rfl (by simp only[qW,o6.row.isCell,o7.row.isCell];rfl);refine⟨.agg [.bool true,C,j, .nilSlice],O, ?_,Py, ?_⟩
   .simp(maxSteps:=999999)(disch:=omega) only[f89,eZ,b1,b2,qY T,cG,Option.map_some,Z,c1,qT U,j7,c2,a1,b5,e6,j8 (qT (up1 (p5.trans p6)) 2) (yL h2.row),e7,zIO _ o6.row.isCell o7.row.isCell,b7,qY (up1 a2),e9,qT (up1 a3),b8,a9,j1,j2,qT a4,i1,i2,vU h7 rfl,ey,ly]
   .have:zJW nd key value=⟨true,nd.keys,nd.vals.set (whereN nd key) value,[]⟩:=by simp only[zJW,hh,if_true]
    rw[this];have NN:=F.next
    refine⟨⟨C,j, .nilSlice,rfl, ?_, ?_, .inl (Own.nil ..)⟩,fun B a=>by
     rcases jK.1 a with h | h | h
     .have:=V B h;omega
     .have:=m B h;omega
     .exact(Blk.nil.1 h).elim⟩
    .exact((k1.mono J (fun _ _ x=>x)).mono i4 (fun B a a7=>by have:=V B a;have:=m B a7;omega)).mono sy (fun B a e=>by have:=V B a;omega)
    .exact .inl (i3.mono sy (fun B a e=>by have:=m B a;omega))
  .have hh:hereN nd key=false:=by simp only[hereN,b6,decide_false,Bool.and_false]
   refine⟨.agg [.bool true,z,L, .nilSlice],Hz, ?_,Pz, ?_⟩
   .simp(maxSteps:=999999)(disch:=omega) only[f89,eZ,b1,b2,qY T,cG,Option.map_some,Z,c1,qT U,j7,c2,a1,b5,e6,j8 (qT (up1 (p5.trans p6)) 2) (yL h2.row),e7,zIO _ o6.row.isCell o7.row.isCell,b7,qY (up1 a2),e9,qT (up1 a3),b8,a9,j1,j2,b6,qT a4,zMT 9 (.str 0 0) (YG key),d2,d4,d7,qT a0,zMT 9 (.str 0 0) (YG value),d8,e1,e5,vU b4 rfl,ez,lz]
   .simp only[zJW,hh,Bool.false_eq_true,if_false];exact rz
 .have hh:hereN nd key=false:=by simp only[hereN,c9,decide_false,Bool.false_and]
  have a9: ¬((whereN nd key:Nat):Int)< ((nd.keys.length:Nat):Int):=by omega
  refine⟨.agg [.bool true,z,L, .nilSlice],Hz, ?_,Pz, ?_⟩
  .simp(maxSteps:=999999)(disch:=omega) only[f89,eZ,b1,b2,qY T,cG,Option.map_some,Z,c1,qT U,j7,c2,a1,b5,e6,j8 (qT (up1 (p5.trans p6)) 2) (yL h2.row),e7,zIO _ o6.row.isCell o7.row.isCell,b7,qY (up1 a2),e9,qT (up1 a3),b8,a9,qT a4,zMT 9 (.str 0 0) (YG key),d2,d4,d7,qT a0,zMT 9 (.str 0 0) (YG value),d8,e1,e5,vU b4 rfl,ez,lz]
  .simp only[zJW,hh,Bool.false_eq_true,if_false];exact rz
open Go.Nd (zOC)
theorem hi1 {H:AH}{v:AV}{l:List Str}(h:yV 1 9 H v l.length (l.map S)){i:Nat}(hi:i<=l.length):
  ∃r,wR 1 v none (some (.int .i64 (i:Nat))) (some (.int .i64 (i:Nat))) H=some r/\Strs H r (l.take i):=by
 obtain⟨r,f,w,_⟩:=UO h (by decide) hi .i64 .i64;rw[map_take]at w;have a:(l.take i).length=i:=by rw[zQ];omega
 exact⟨r,f,by rw[Strs,a];exact w⟩
theorem lo1 {H:AH}{v:AV}{l:List Str}(h:yV 1 9 H v l.length (l.map S)){i:Nat}(hi:i<=l.length)(m:0<l.length):
  ∃r,wR 1 v (some (.int .i64 (i:Nat))) none none H=some r/\Strs H r (l.drop i):=by
 by_cases j:i<l.length
 .obtain⟨r,a,w,_⟩:=Q1 h (by decide) j .i64;rw[map_drop]at w;have f:(l.drop i).length=l.length - i:=by rw[zV]
  exact⟨r,a,by rw[Strs,f];exact w⟩
 .obtain rfl:i=l.length:=by omega
  obtain⟨r,a,w⟩:=YT h (by decide) m .i64;exact⟨r,a,by rw[List.drop_length];exact w⟩
def zOD (nd:Nd.Node)(key:Str):Nat:=if Nd.shaped ltS nd&&nd.leaf then(if hereN nd key then 0 else 5)else 1
theorem zKI (D:Dyn)(n:Nat)(hn:200000000<=n){H:AH}(hk:H.ok){v:AV}{nd:Nd.Node}{key:Str}(h:yE H v nd)(hs:small nd):
  ∃u H',f84 D n [v,S key] H=some (.tuple [u, .int .i64 ((zOD nd key:Nat):Int)],H')/\Prs H H'/\wN H.next H' u (if zOD nd key=0 then zOC nd key else nd0):=by
 have i0:=h.node;obtain⟨ks,vs,ps,rfl,h1,h2,h3⟩:=h;have a9:=Nd.sumL_ge nd.keys;have b0:=Nd.sumL_ge nd.vals;have s0:=hs;obtain⟨s1,s2,s3⟩:=hs;obtain⟨W,N⟩: ∃W,W=nd.leaf:=⟨_,rfl⟩;obtain⟨po,a⟩: ∃po,po=zOD nd key:=⟨_,rfl⟩;rw[<-a,<-N];rw[<-N]at i0;simp only[zOD,<-N]at a;obtain⟨H1,A1,b1,p1,g1,m1,n1⟩:=box hk (.cells [.bool W,ks,vs,ps] 119 1 false);obtain⟨H2,A2,b2,p2,g2,m2,n2⟩:=box p1.ok (.cells [.bool false, .nilSlice, .nilSlice, .nilSlice] 119 1 false);have C:Prs H H2:=p1.trans p2;have y:=p2.get p1.ok g1;obtain⟨H4,F,Y⟩:=vD D n C.ok (i0.prs C) s0 hn;have t:=C.trans Y;have o:=Y.get C.ok y;have a5:=Y.get C.ok g2;have a0: ∀ {f:AH} {l:List AV},Prs H4 f->l.length=4->qW l=true-> ∃m,stN 4 (.ptr A2 0) (.agg l) f=some (qX,m)/\Prs H m/\Stp (fun B=>B=A2) f m/\ldN 4 (.ptr A2 0) m=some (.agg l):=fun {f l} px hl hc=>by
  obtain⟨m,e,g,s,_⟩:=y9 px.ok (Prs.get px t.ok a5) hl hc;have e':stN 4 (.ptr A2 0) (.agg l) f=some (qX,m):=e;exact⟨m,e',(t.trans px).fresh s (fun B z=>by omega),s,vU g hl⟩
 obtain⟨Hr,er,Pr,sr,lr⟩:=a0 (Prs.refl t.ok) (l:=[.bool false, .nilSlice, .nilSlice, .nilSlice]) rfl rfl
 cases c1:Nd.shaped ltS nd with
 | false=>
  simp only[c1,Bool.false_and,Bool.false_eq_true,if_false]at a;subst a;refine⟨.agg [.bool false, .nilSlice, .nilSlice, .nilSlice],Hr, ?_,Pr,wN.zero _ _⟩;simp(maxSteps:=999999)(disch:=omega) only[f84,eZ,b1,b2,qY y,cG,Option.map_some,F,c1,cX,er,lr]
 | true=>
 cases W with
 | false=>
  simp only[Bool.and_false,Bool.false_eq_true,if_false]at a;subst a;refine⟨.agg [.bool false, .nilSlice, .nilSlice, .nilSlice],Hr, ?_,Pr,wN.zero _ _⟩;simp(maxSteps:=999999)(disch:=omega) only[f84,eZ,b1,b2,qY y,cG,Option.map_some,F,c1,qT o,cX,er,lr]
 | true=>
 have b3:nd.vals.length=nd.keys.length:=by
  simp only[Nd.shaped,<-N,if_true,zC,zJ]at c1;exact c1.2.1.1
 simp only[c1,Bool.and_self,if_true]at a;obtain⟨H5,e5,J⟩:=aI D n hn t.ok (key:=key) (i0.prs t) s0;have j:=t.trans J;have O:=J.get t.ok o;have b4:=Nd.whereN_le nd key;have a1:=h1.row.lnSl;obtain⟨Hs,es,Ps,ss,ls⟩:=a0 J (l:=[.bool false, .nilSlice, .nilSlice, .nilSlice]) rfl rfl;have q1 {f:AH} (p:Prs H f):yV 1 9 f ks nd.keys.length (nd.keys.map S):=h1.mono p (fun _ _ x=>x);have q2 {f:AH} (p:Prs H f):yV 1 9 f vs nd.vals.length (nd.vals.map S):=h2.mono p (fun _ _ x=>x);by_cases a2:whereN nd key<nd.keys.length
 case neg=>
  have K:hereN nd key=false:=by simp only[hereN,a2,decide_false,Bool.false_and]
  have L:((nd.keys.length:Nat):Int)<=((whereN nd key:Nat):Int):=by omega
  simp only[K,Bool.false_eq_true,if_false]at a;subst a;refine⟨.agg [.bool false, .nilSlice, .nilSlice, .nilSlice],Hs, ?_,Ps,wN.zero _ _⟩;simp(maxSteps:=999999)(disch:=omega) only[f84,eZ,b1,b2,qY y,cG,Option.map_some,F,c1,qT o,qY o,e5,qT O,a1,L,cX,es,ls]
 case pos=>
 obtain⟨q,j1,j2⟩:=(q1 j).row |> (fun(r:Strs H5 ks nd.keys)=>r.at a2);rw[<-wK (d:=[])]at j2;have L: ¬((nd.keys.length:Nat):Int)<=((whereN nd key:Nat):Int):=by omega
 by_cases T:nd.keys.getD (whereN nd key) []=key
 case neg=>
  have K:hereN nd key=false:=by simp only[hereN,T,decide_false,Bool.and_false]
  simp only[K,Bool.false_eq_true,if_false]at a;subst a;refine⟨.agg [.bool false, .nilSlice, .nilSlice, .nilSlice],Hs, ?_,Ps,wN.zero _ _⟩;simp(maxSteps:=999999)(disch:=omega) only[f84,eZ,b1,b2,qY y,cG,Option.map_some,F,c1,qT o,qY o,e5,qT O,a1,L,j1,j2,ne_eq,T,not_false_eq_true,cX,es,ls]
 case pos=>
 have K:hereN nd key=true:=by simp only[hereN,T,decide_true,Bool.and_true,zJ];exact a2
 simp only[K,if_true]at a;subst a;generalize hw:whereN nd key=i at*
 obtain⟨r1,a6,x1⟩:=hi1 (q1 j) (i:=i) (by omega);obtain⟨r2,a3,x2⟩:=lo1 (q1 j) (i:=i+1) (by omega) (by omega);obtain⟨r3,a7,x3⟩:=hi1 (q2 j) (i:=i) (by omega);obtain⟨r4,a4,x4⟩:=lo1 (q2 j) (i:=i+1) (by omega) (by omega);obtain⟨H6,A6,b6,p6,g6,m6,n6⟩:=box j.ok (.cells [r1,r2] 117 1 false);have Z:=j.trans p6;obtain⟨H7,A7,b7,p7,g7,m7,n7⟩:=box Z.ok (.cells [r3,r4] 117 1 false);have P7:=Z.trans p7;have U:Prs H5 H7:=p6.trans p7;obtain⟨w8,H8,e8,p8,o8,f8⟩:=zKN D n (cc:=4) P7.ok (p7.get Z.ok g6) (x1.prs U) (x2.prs U) (by simp only[zQ,zV];omega) (by omega);have P8:=P7.trans p8;have V:=U.trans p8;obtain⟨w9,H9,e9,p9,o9,f9⟩:=zKN D n (cc:=4) P8.ok (p8.get P7.ok g7) (x3.prs V) (x4.prs V) (by simp only[zQ,zV];omega) (by omega);have a8:=V.trans p9;obtain⟨m,ey,Py,sy,ly⟩:=a0 (J.trans a8) (l:=[.bool true,w8,w9, .nilSlice]) rfl (by simp only[qW,o8.row.isCell,o9.row.isCell];rfl);have N7:=U.next;have N5:=J.next;have N4:=Y.next;have N8:=p8.next
 simp only[Int.natCast_add]at a3 a4;have up {f:AH} (p:Prs H5 f):=Prs.get p j.ok O;refine⟨.agg [.bool true,w8,w9, .nilSlice],m, ?_,Py, ?_⟩
 .simp(maxSteps:=999999)(disch:=omega) only[f84,eZ,b1,b2,qY y,cG,Option.map_some,F,c1,qT o,qY o,e5,qT O,a1,L,j1,j2,ne_eq,T,not_true_eq_false,a6,a3,zP4 117 .nilSlice x1.isCell x2.isCell rfl,b6,qT (up p6),vC (q2 j) (q2 Z) (by decide),a7,a4,zP4 117 .nilSlice x3.isCell x4.isCell rfl,b7,e8,
   j8 (qT (up V) 2) (yL h2.row),vC (q2 j) (q2 P8) (by decide),j8 rfl (yL x3),j8 rfl (yL x4),e9,zIO _ o8.row.isCell o9.row.isCell,ey,ly]
 .simp only[if_true,zOC,hw];have NN:=P7.next
  exact⟨⟨w8,w9, .nilSlice,rfl, .inl ((o8.mono p9 (fun _ _ x=>x)).mono sy (fun B z e=>by have:=f8 B z;omega)), .inl (o9.mono sy (fun B z e=>by have:=f9 B z;omega)), .inl (Own.nil ..)⟩,fun B z=>by
   rcases jK.1 z with h | h | h
   .have:=f8 B h;omega
   .have:=f9 B h;omega
   .exact(Blk.nil.1 h).elim⟩
end Go.Eng.Sh
end
section
namespace Go.Bt
open Go.Nd (Str Kvs lookP putP delP Srt leafOf mayK rising sumL)
open Go.Eng (ltS yW yS uV vG bH)
abbrev Bd:=Option Str
def zH4:Bd->Str->Prop
 | none,_=>True
 | some a,k=>a=k\/ltS a k=true
def zCl:Bd->Str->Prop
 | none,_=>True
 | some a,k=>ltS a k=true
def hiB:Bd->Str->Prop
 | none,_=>True
 | some b,k=>ltS k b=true
theorem zCl.low {b:Bd}{k:Str}(h:zCl b k):zH4 b k:=by
 cases b with
 | none=>trivial
 | some a=>exact .inr h
theorem YU {a b c:Str}(h:a=b\/ltS a b=true)(k:ltS b c=true):ltS a c=true:=by
 rcases h with rfl | h
 .exact k
 .exact yS h k
theorem vF {a b c:Str}(h:ltS a b=true)(k:b=c\/ltS b c=true):ltS a c=true:=by
 rcases k with rfl | k
 .exact h
 .exact yS h k
theorem le_trans {a b c:Str}(h:a=b\/ltS a b=true)(k:b=c\/ltS b c=true):a=c\/ltS a c=true:=by
 rcases k with rfl | k
 .exact h
 .exact .inr (YU h k)
theorem not_lt {a b:Str}(h: ¬ltS a b=true):b=a\/ltS b a=true:=by
 cases k:ltS b a with
 | true=>exact .inr rfl
 | false=>exact .inl (uV k (by simpa using h))
theorem zNh {b:Bd}{k x:Str}(h:zH4 b k)(f:ltS k x=true):zCl b x:=by
 cases b with
 | none=>trivial
 | some a=>exact YU h f
theorem K6 {b:Bd}{k x:Str}(h:zCl b k)(f:k=x\/ltS k x=true):zCl b x:=by
 cases b with
 | none=>trivial
 | some a=>exact vF h f
theorem zDK {b:Bd}{k x:Str}(h:hiB b k)(f:x=k\/ltS x k=true):hiB b x:=by
 cases b with
 | none=>trivial
 | some a=>exact YU f h
def Tr:Nat->Type
 | 0=>Kvs
 | h+1=>List Str×List (Tr h)
def con:(h:Nat)->Tr h->Kvs
 | 0,l=>l
 | h+1,t=>t.2.flatMap (con h)
def KB {α:Type}(W:Bd->Bd->α->Prop):Bd->List Str->List α->Bd->Prop
 | lo,[],[t],hi=>W lo hi t
 | lo,k::ks,t::ts,hi=>W lo (some k) t/\KB W (some k) ks ts hi
 | _,_,_,_=>False
def XB (lo:Bd)(ks:List Str):Nat->Bd
 | 0=>lo
 | i+1=>ks[i]?
def ZU (ks:List Str)(hi:Bd)(i:Nat):Bd:=match ks[i]? with
 | some k=>some k
 | none=>hi
theorem K7 (lo:Bd)(k:Str)(ks:List Str)(i:Nat):XB lo (k::ks) (i+1)=XB (some k) ks i:=by cases i<;>rfl
theorem KC (hi:Bd)(k:Str)(ks:List Str)(i:Nat):ZU (k::ks) hi (i+1)=ZU ks hi i:=rfl
theorem KB.len {α:Type}{W:Bd->Bd->α->Prop} : ∀ {ks:List Str} {ts:List α} {lo hi:Bd},KB W lo ks ts hi->ts.length=ks.length+1
 | [],[],_,_,h=>h.elim
 | [],[_],_,_,_=>rfl
 | [],_::_::_,_,_,h=>h.elim
 | _::_,[],_,_,h=>h.elim
 | _::ks,_::ts,_,_,h=>by simp[KB.len h.2]
theorem KB.at {α:Type}{W:Bd->Bd->α->Prop} : ∀ {ks:List Str} {ts:List α} {lo hi:Bd} {i:Nat} {t:α},KB W lo ks ts hi->ts[i]? =some t->W (XB lo ks i) (ZU ks hi i) t
 | [],[],_,_,_,_,h,_=>h.elim
 | [],[a],_,_,0,t,h,ht=>by simp at ht;subst ht;exact h
 | [],[a],_,_,i+1,t,h,ht=>by simp at ht
 | [],_::_::_,_,_,_,_,h,_=>h.elim
 | _::_,[],_,_,_,_,h,_=>h.elim
 | k::ks,a::ts,_,_,0,t,h,ht=>by simp at ht;subst ht;exact h.1
 | k::ks,a::ts,_,_,i+1,t,h,ht=>by
  simp only[List.getElem?_cons_succ]at ht;rw[K7,KC];exact KB.at h.2 ht
theorem KB.mono {α:Type}{W f:Bd->Bd->α->Prop}(a: ∀lo hi t,W lo hi t->f lo hi t): ∀ {ks:List Str} {ts:List α} {lo hi:Bd},KB W lo ks ts hi->KB f lo ks ts hi
 | [],[],_,_,h=>h.elim
 | [],[_],_,_,h=>a _ _ _ h
 | [],_::_::_,_,_,h=>h.elim
 | _::_,[],_,_,h=>h.elim
 | _::ks,_::ts,_,_,h=>⟨a _ _ _ h.1,KB.mono a h.2⟩
theorem KB.app {α:Type}{W:Bd->Bd->α->Prop}{k:Str}{a:List Str}{f:List α}{hi:Bd}(i:KB W (some k) a f hi): ∀ {ks:List Str} {ts:List α} {lo:Bd},KB W lo ks ts (some k)->KB W lo (ks++(k::a)) (ts++f) hi
 | [],[],_,h=>h.elim
 | [],[_],_,h=>⟨h,i⟩
 | [],_::_::_,_,h=>h.elim
 | _::_,[],_,h=>h.elim
 | _::ks,_::ts,_,h=>⟨h.1,KB.app i h.2⟩
theorem KB.drop {α:Type}{W:Bd->Bd->α->Prop} : ∀ {ks:List Str} {ts:List α} {lo hi:Bd} {m:Nat} {k:Str},KB W lo ks ts hi->ks[m]? =some k->KB W (some k) (ks.drop (m+1)) (ts.drop (m+1)) hi
 | [],_,_,_,_,_,_,hk=>by simp at hk
 | _::_,[],_,_,_,_,h,_=>h.elim
 | a::ks,t::ts,_,_,0,k,h,hk=>by simp at hk;subst hk;exact h.2
 | a::ks,t::ts,_,_,m+1,k,h,hk=>by
  simp only[List.getElem?_cons_succ]at hk;have:=KB.drop (m:=m) h.2 hk;exact this
theorem KB.take {α:Type}{W:Bd->Bd->α->Prop} : ∀ {ks:List Str} {ts:List α} {lo hi:Bd} {m:Nat} {k:Str},KB W lo ks ts hi->ks[m]? =some k->KB W lo (ks.take m) (ts.take (m+1)) (some k)
 | [],_,_,_,_,_,_,hk=>by simp at hk
 | _::_,[],_,_,_,_,h,_=>h.elim
 | a::ks,t::ts,_,_,0,k,h,hk=>by simp at hk;subst hk;exact h.1
 | a::ks,t::ts,_,_,m+1,k,h,hk=>by
  simp only[List.getElem?_cons_succ]at hk;exact⟨h.1,KB.take h.2 hk⟩
theorem KB.head {α:Type}{W:Bd->Bd->α->Prop}{ks:List Str}{ts:List α}{j hi:Bd}{m:Nat}(h:KB W j ks ts hi)(hm:m<ts.length): ∀ {f:List Str} {i:List α} {lo:Bd},KB W lo f i (ZU ks hi m)->KB W lo (f++ks.drop m) (i++ts.drop (m+1)) hi
 | [],[],_,h=>h.elim
 | [],[p],lo,hp=>by
  have hl:=h.len;simp only[ZU]at hp
  cases a:ks[m]? with
  | none=>
   rw[a]at hp;have:ks.length<=m:=by simpa using a
   rw[zZ this,zZ (by omega)];exact hp
  | some k=>
   rw[a]at hp;obtain⟨o,rfl⟩:=List.getElem?_eq_some_iff.1 a;rw[zX o];exact⟨hp,h.drop a⟩
 | [],_::_::_,_,h=>h.elim
 | _::_,[],_,h=>h.elim
 | _::f,_::i,_,hp=>⟨hp.1,KB.head h hm hp.2⟩
theorem KB.splice {α:Type}{W:Bd->Bd->α->Prop}{a:List Str}{f:List α} : ∀ {ks:List Str} {ts:List α} {lo hi:Bd} {i m:Nat},KB W lo ks ts hi->i+m<ts.length->KB W (XB lo ks i) a f (ZU ks hi (i+m))->KB W lo (ks.take i++a++ks.drop (i+m)) (ts.take i++f++ts.drop (i+m+1)) hi
 | ks,ts,lo,hi,0,m,h,hm,hp=>by
  simp only[Nat.zero_add,List.take_zero,List.nil_append]at hm hp⊢;exact KB.head h hm (lo:=lo) hp
 | [],ts,_,_,i+1,m,h,hm,_=>by have:=h.len;simp only[qD]at this;omega
 | _::_,[],_,_,_+1,_,h,_,_=>h.elim
 | k::ks,t::ts,lo,hi,i+1,m,h,hm,hp=>by
  have e:i+1+m=i+m+1:=by omega
  rw[e,K7,KC]at hp;rw[e];simp only[zO]at hm;have:=KB.splice (i:=i) (m:=m) h.2 (by omega) hp;simp only[List.take_succ_cons,List.drop_succ_cons,List.cons_append];exact⟨h.1,this⟩
def Lf (lo hi:Bd)(l:Kvs):Prop:=Srt l/\ ∀p∈l,zH4 lo p.1/\hiB hi p.1/\mayK p.1=true/\p.2.length<=200
def jI (l:Kvs):Nat:=Nd.size (leafOf l)
def jL (ks:List Str)(n:Nat):Nat:=2+16*n+sumL ks
def Inn {α:Type}(W:Bd->Bd->α->Prop)(lo hi:Bd)(t:List Str×List α):Prop:=(∀k∈t.1,mayK k=true/\zCl lo k/\hiB hi k)/\rising ltS t.1=true/\KB W lo t.1 t.2 hi
def jD:(h:Nat)->Tr h->Nat
 | 0,l=>jI l
 | _+1,t=>jL t.1 t.2.length
def WF:(h:Nat)->Bd->Bd->Tr h->Prop
 | 0,lo,hi,l=>Lf lo hi l/\l≠[]/\jI l<=500
 | h+1,lo,hi,t=>Inn (WF h) lo hi t/\t.1≠[]/\160<=jL t.1 t.2.length/\jL t.1 t.2.length<=500
def WR:(h:Nat)->Tr h->Prop
 | 0,l=>Lf none none l/\l≠[]/\jI l<=500
 | h+1,t=>Inn (WF h) none none t/\t.1≠[]/\jL t.1 t.2.length<=500
def WX:(h:Nat)->Bd->Bd->Tr h->Prop
 | 0,lo,hi,l=>Lf lo hi l/\jI l<=785
 | h+1,lo,hi,t=>Inn (WF h) lo hi t/\jL t.1 t.2.length<=785
theorem VZ {h:Nat}(a: ∀ {lo hi:Bd} {t:Tr h},WF h lo hi t-> ∀p∈con h t,zH4 lo p.1/\hiB hi p.1): ∀ {ks:List Str} {ts:List (Tr h)} {lo hi:Bd},KB (WF h) lo ks ts hi->rising ltS ks=true->(∀k∈ks,zCl lo k/\hiB hi k)-> ∀p∈ts.flatMap (con h),zH4 lo p.1/\hiB hi p.1
 | [],[],_,_,h,_,_=>h.elim
 | [],[t],lo,hi,hk,_,_=>fun p hp=>by
  simp only[zW,List.flatMap_nil,List.append_nil]at hp;exact a hk p hp
 | [],_::_::_,_,_,h,_,_=>h.elim
 | _::_,[],_,_,h,_,_=>h.elim
 | k::ks,t::ts,lo,hi,hk,hr,hb=>fun p hp=>by
  have f:=hb k (zF ..);rw[Nd.rising_cons]at hr;simp only[zW,qO]at hp;rcases hp with hp | hp
  .have:=a hk.1 p hp;exact⟨this.1,zDK f.2 (.inr this.2)⟩
  .have:=VZ a hk.2 hr.2 (fun x i=>⟨hr.1 x i,(hb x (zE _ i)).2⟩) p hp;exact⟨(K6 f.1 this.1).low,this.2⟩
theorem U0: ∀(h:Nat) {lo hi:Bd} {t:Tr h},WF h lo hi t-> ∀p∈con h t,zH4 lo p.1/\hiB hi p.1
 | 0,lo,hi,l,hw,p,hp=>⟨(hw.1.2 p hp).1,(hw.1.2 p hp).2.1⟩
 | h+1,lo,hi,t,hw,p,hp=>VZ (U0 h) hw.1.2.2 hw.1.2.1 (fun k a=>(hw.1.1 k a).2) p hp
theorem zG4 {a b:Kvs}(i:Srt a)(hb:Srt b)(h: ∀p∈a,∀q∈b,ltS p.1 q.1=true):Srt (a++b):=by
 induction a with
 | nil=>exact hb
 | cons p a ih=>
  obtain⟨k,v⟩:=p;refine⟨fun q f=> ?_,ih i.2 fun p hp=>h p (zE _ hp)⟩;rcases List.mem_append.1 f with f | f
  .exact i.1 q f
  .exact h _ (zF ..) q f
theorem zG3 {h:Nat}(a: ∀ {lo hi:Bd} {t:Tr h},WF h lo hi t->Srt (con h t)): ∀ {ks:List Str} {ts:List (Tr h)} {lo hi:Bd},KB (WF h) lo ks ts hi->rising ltS ks=true->(∀k∈ks,zCl lo k/\hiB hi k)->Srt (ts.flatMap (con h))
 | [],[],_,_,h,_,_=>h.elim
 | [],[t],lo,hi,hk,_,_=>by
  simp only[zW,List.flatMap_nil,List.append_nil];exact a hk
 | [],_::_::_,_,_,h,_,_=>h.elim
 | _::_,[],_,_,h,_,_=>h.elim
 | k::ks,t::ts,lo,hi,hk,hr,hb=>by
  rw[Nd.rising_cons]at hr;have f: ∀x∈ks,zCl (some k) x/\hiB hi x:=fun x i=>⟨hr.1 x i,(hb x (zE _ i)).2⟩
  simp only[zW];refine zG4 (a hk.1) (zG3 a hk.2 hr.2 f) fun p hp q j=> ?_
  exact vF (U0 h hk.1 p hp).2 (VZ (U0 h) hk.2 hr.2 f q j).1
theorem zIA: ∀(h:Nat) {lo hi:Bd} {t:Tr h},WF h lo hi t->Srt (con h t)
 | 0,_,_,_,hw=>hw.1.1
 | h+1,_,_,_,hw=>zG3 (zIA h) hw.1.2.2 hw.1.2.1 (fun k a=>(hw.1.1 k a).2)
theorem zNt {h:Nat}{lo hi:Bd}{t:List Str×List (Tr h)}(a:Inn (WF h) lo hi t):Srt (t.2.flatMap (con h)):=
 zG3 (zIA h) a.2.2 a.2.1 (fun k f=>(a.1 k f).2)
theorem zLp {h:Nat}{t:Tr h}(a:WR h t):Srt (con h t):=by
 cases h with
 | zero=>exact a.1.1
 | succ h=>exact zNt a.1
theorem zPO {h:Nat}{lo hi:Bd}{t:Tr h}(a:WF h lo hi t): ∀p∈con h t,mayK p.1=true/\p.2.length<=200:=by
 induction h generalizing lo hi with
 | zero=>exact fun p hp=>(a.1.2 p hp).2.2
 | succ h ih=>
  intro p hp;obtain⟨m,f,hp⟩:=List.mem_flatMap.1 hp;obtain⟨i,j,rfl⟩:=List.mem_iff_getElem.1 f;exact ih (KB.at a.1.2.2 (zH j)) p hp
theorem zN1 {k v:Str}{A C B:Kvs}(f: ∀p∈A,ltS p.1 k=true)(i: ∀p∈B,ltS k p.1=true):putP k v (A++C++B)=A++putP k v C++B:=by
 induction A with
 | nil=>
  simp only[List.nil_append]
  induction C with
  | nil=>
   cases B with
   | nil=>rfl
   | cons b B=>
    obtain⟨b,w⟩:=b;have h:=i (b,w) (zF ..);simp only[List.nil_append,putP,List.cons_append];rw[if_neg (fun e=>bH h e.symm),if_neg (by rw[vG h];simp)]
  | cons c C ih=>
   obtain⟨c,w⟩:=c;simp only[List.cons_append,putP];split
   .rfl
   .split
    .rw[ih];rfl
    .rfl
 | cons a A ih=>
  obtain⟨a,w⟩:=a;have h:=f (a,w) (zF ..);simp only[List.cons_append,putP];rw[if_neg (bH h),if_pos h,ih (fun p hp=>f p (zE _ hp))]
theorem zDD {k:Str}{A B:Kvs} :lookP k (A++B)=match lookP k A with | some v=>some v | none=>lookP k B:=by
 induction A with
 | nil=>rfl
 | cons a A ih=>
  obtain⟨a,w⟩:=a;simp only[List.cons_append,lookP];split
  .rfl
  .exact ih
theorem zKa {k:Str}{A C B:Kvs}(a: ∀p∈A,ltS p.1 k=true)(f: ∀p∈B,ltS k p.1=true):lookP k (A++C++B)=lookP k C:=by
 rw[zDD,zDD,Nd.look_none (l:=A) (fun p hp=>bH (a p hp)),Nd.look_none (l:=B) (fun p hp e=>bH (f p hp) e.symm)]
 cases lookP k C<;>rfl
theorem del_none {k:Str}{l:Kvs}(h: ∀p∈l,p.1≠k):delP k l=l:=by
 induction l with
 | nil=>rfl
 | cons a l ih=>
  obtain⟨a,w⟩:=a;rw[delP,if_neg (h (a,w) (zF ..)),ih fun p hp=>h p (zE _ hp)]
theorem zIn {k:Str}{A C B:Kvs}(f: ∀p∈A,ltS p.1 k=true)(i: ∀p∈B,ltS k p.1=true):delP k (A++C++B)=A++delP k C++B:=by
 induction A with
 | nil=>
  simp only[List.nil_append]
  induction C with
  | nil=>exact del_none fun p hp e=>bH (i p hp) e.symm
  | cons c C ih=>
   obtain⟨c,w⟩:=c;simp only[List.cons_append,delP];split
   .rfl
   .rw[ih];rfl
 | cons a A ih=>
  obtain⟨a,w⟩:=a;have h:=f (a,w) (zF ..);simp only[List.cons_append,delP];rw[if_neg (bH h),ih (fun p hp=>f p (zE _ hp))]
def yH (ks:List Str)(key:Str):Nat:=(ks.filter fun k=>ltS k key||decide (k=key)).length
theorem uD (ks:List Str)(key:Str):yH ks key<=ks.length:=List.length_filter_le _ _
theorem JC {a key:Str}{ks:List Str}(h:rising ltS (a::ks)=true):yH (a::ks) key=if ltS key a=true then 0 else yH ks key+1:=by
 rw[Nd.rising_cons]at h;by_cases f:ltS key a=true
 .rw[if_pos f,yH,List.length_eq_zero_iff,List.filter_eq_nil_iff];intro x m i;have j:ltS key x=true:=by
   rcases List.mem_cons.1 m with rfl | m
   .exact f
   .exact yS f (h.1 x m)
  simp only[Bool.or_eq_true,zJ]at i;rcases i with i | rfl
  .rw[vG i]at j;cases j
  .rw[yW]at j;cases j
 .rw[if_neg f,yH,List.filter_cons];have:(ltS a key||decide (a=key))=true:=by
   simp only[Bool.or_eq_true,zJ];rcases not_lt f with e | e
   .exact .inr e
   .exact .inl e
  rw[this];rfl
theorem UF {key:Str} : ∀ {ks:List Str} {lo:Bd},rising ltS ks=true->zH4 lo key->zH4 (XB lo ks (yH ks key)) key
 | [],_,_,h=>h
 | a::ks,lo,hr,h=>by
  rw[JC hr];by_cases f:ltS key a=true
  .rw[if_pos f];exact h
  .rw[if_neg f,K7];rw[Nd.rising_cons]at hr;exact UF hr.2 (not_lt f)
theorem UG {key:Str} : ∀ {ks:List Str} {hi:Bd},rising ltS ks=true->hiB hi key->hiB (ZU ks hi (yH ks key)) key
 | [],_,_,h=>h
 | a::ks,hi,hr,h=>by
  rw[JC hr];by_cases f:ltS key a=true
  .rw[if_pos f];exact f
  .rw[if_neg f,KC];rw[Nd.rising_cons]at hr;exact UG hr.2 h
theorem JB {h:Nat}{lo hi:Bd}{key:Str}{ks:List Str}{ts:List (Tr h)}(q:Inn (WF h) lo hi (ks,ts)):
  (∀p∈(ts.take (yH ks key)).flatMap (con h),ltS p.1 key=true)/\ ∀p∈(ts.drop (yH ks key+1)).flatMap (con h),ltS key p.1=true:=by
 obtain⟨s,f,o⟩:=q;simp only at s f o;have u:=uD ks key;have z:=o.len;constructor
 .have hl:=UF (lo:=none) f (key:=key) trivial
  cases q:yH ks key with
  | zero=>intro p hp;simp at hp
  | succ w=>
   rw[q]at hl u;have m:w<ks.length:=by omega
   simp only[XB,zH m]at hl;have i:=o.take (zH m);have hr:rising ltS (ks.take w)=true:=Nd.rising_take f w;intro p hp;have hm: ∀x∈ks.take w,ltS x ks[w]=true:=fun x a=>by
    obtain⟨j,y,rfl⟩:=List.mem_iff_getElem.1 a;simp only[zQ]at y;rw[List.getElem_take];have hd:=Nd.rising_drop f j;rw[zX (by omega),Nd.rising_cons]at hd;refine hd.1 _ ?_;rw[List.mem_iff_getElem];exact⟨w - (j+1),by simp;omega,by rw[List.getElem_drop];congr 1;omega⟩
   have:=VZ (U0 h) i hr (fun x a=>⟨(s x (List.mem_of_mem_take a)).2.1,hm x a⟩) p hp;exact vF this.2 hl
 .have t:=UG (hi:=none) f (key:=key) trivial;intro p hp
  cases i:ks[yH ks key]? with
  | none=>
   have:ks.length<=yH ks key:=by simpa using i
   rw[zZ (by omega)]at hp;simp at hp
  | some k=>
   simp only[ZU,i]at t;obtain⟨m,rfl⟩:=List.getElem?_eq_some_iff.1 i;have v:=o.drop i;have hd:=Nd.rising_drop f (yH ks key);rw[zX m,Nd.rising_cons]at hd;have:=VZ (U0 h) v hd.2 (fun x a=>⟨hd.1 x a,(s x (List.mem_of_mem_drop a)).2.2⟩) p hp;exact vF t this.1
theorem zDg {α:Type}{ts:List α}{i:Nat}{t:α}(h:ts[i]? =some t):ts=ts.take i++[t]++ts.drop (i+1):=by
 obtain⟨hi,rfl⟩:=List.getElem?_eq_some_iff.1 h;rw[List.append_assoc,List.singleton_append,<-zX hi,List.take_append_drop]
theorem xZ {a b:List Str} :rising ltS (a++b)=true↔rising ltS a=true/\rising ltS b=true/\ ∀x∈a,∀y∈b,ltS x y=true:=by
 induction a with
 | nil=>simp[rising]
 | cons c a ih=>
  rw[List.cons_append,Nd.rising_cons,Nd.rising_cons,ih];simp only[qO,List.mem_cons];constructor
  .rintro⟨h1,h2,h3,h4⟩
   refine⟨⟨fun x f=>h1 x (.inl f),h2⟩,h3,fun x f y h=> ?_⟩;rcases f with rfl | f
   .exact h1 y (.inr h)
   .exact h4 x f y h
  .rintro⟨⟨h1,h2⟩,h3,h4⟩
   exact⟨fun x f=>f.elim (h1 x) (h4 c (.inl rfl) x),h2,h3,fun x f y h=>h4 x (.inr f) y h⟩
theorem Inn.splice {α:Type}{W:Bd->Bd->α->Prop}{lo hi:Bd}{ks F:List Str}{ts L:List α}{i m:Nat}(h:Inn W lo hi (ks,ts))(hm:i+m<ts.length)(hp:Inn W (XB lo ks i) (ZU ks hi (i+m)) (F,L)):
  Inn W lo hi (ks.take i++F++ks.drop (i+m),ts.take i++L++ts.drop (i+m+1)):=by
 obtain⟨C,u,J⟩:=h;obtain⟨v,N,O⟩:=hp;simp only at C u J v N O;have Z:=J.len;have S: ∀x∈ks.take i,∀y∈F,ltS x y=true:=fun x a y K=>by
  have t:=(v y K).2.1
  cases i with
  | zero=>simp at a
  | succ j=>
   have f:j<ks.length:=by omega
   simp only[XB,zH f]at t;rw[zU f,qO,List.mem_singleton]at a;rcases a with a | rfl
   .have:=Nd.rising_take u (j+1);rw[zU f,xZ]at this;exact yS (this.2.2 x a _ (List.mem_singleton_self _)) t
   .exact t
 have T: ∀y∈F,∀z∈ks.drop (i+m),ltS y z=true:=fun y K z o=>by
  have t:=(v y K).2.2;by_cases f:i+m<ks.length
  .simp only[ZU,zH f]at t;have hd:=Nd.rising_drop u (i+m);rw[zX f]at o hd;rw[Nd.rising_cons]at hd;rcases List.mem_cons.1 o with rfl | o
   .exact t
   .exact yS t (hd.1 z o)
  .rw[zZ (by omega)]at o;simp at o
 have U: ∀x∈ks.take i,∀z∈ks.drop (i+m),ltS x z=true:=fun x a z o=>by
  have:ks=ks.take (i+m)++ks.drop (i+m):=(List.take_append_drop _ _).symm;rw[this,xZ]at u;refine u.2.2 x ?_ z o;have:ks.take i=(ks.take (i+m)).take i:=by rw[List.take_take,Nat.min_eq_left (by omega)]
  rw[this]at a;exact List.mem_of_mem_take a
 have V: ∀s,zCl (XB lo ks i) s->zCl lo s:=fun s q=>by
  cases i with
  | zero=>exact q
  | succ j=>
   have f:j<ks.length:=by omega
   simp only[XB,zH f]at q;exact K6 (C _ (qE f)).2.1 (.inr q)
 have Y: ∀s,hiB (ZU ks hi (i+m)) s->hiB hi s:=fun s q=>by
  by_cases f:i+m<ks.length
  .simp only[ZU,zH f]at q;exact zDK (C _ (qE f)).2.2 (.inr q)
  .simp only[ZU,List.getElem?_eq_none (show ks.length<=i+m by omega)]at q;exact q
 refine⟨fun k p=> ?_, ?_,KB.splice J hm O⟩
 .simp only[qO]at p;rcases p with(p | p) | p
  .exact C k (List.mem_of_mem_take p)
  .exact⟨(v k p).1,V k (v k p).2.1,Y k (v k p).2.2⟩
  .exact C k (List.mem_of_mem_drop p)
 .rw[xZ,xZ];refine⟨⟨Nd.rising_take u i,N,S⟩,Nd.rising_drop u _,fun x a z o=> ?_⟩;rcases List.mem_append.1 a with a | a
  .exact U x a z o
  .exact T x a z o
def Gen:(h:Nat)->Bd->Bd->Tr h->Prop
 | 0,lo,hi,l=>Lf lo hi l
 | h+1,lo,hi,t=>Inn (WF h) lo hi t
def Full:(h:Nat)->Tr h->Prop
 | 0,l=>l≠[]
 | _+1,t=>160<=jL t.1 t.2.length
theorem WF.gen: ∀ {h:Nat} {lo hi:Bd} {t:Tr h},WF h lo hi t->Gen h lo hi t
 | 0,_,_,_,w=>w.1
 | _+1,_,_,_,w=>w.1
theorem WX.gen: ∀ {h:Nat} {lo hi:Bd} {t:Tr h},WX h lo hi t->Gen h lo hi t
 | 0,_,_,_,w=>w.1
 | _+1,_,_,_,w=>w.1
theorem WF.full: ∀ {h:Nat} {lo hi:Bd} {t:Tr h},WF h lo hi t->Full h t
 | 0,_,_,_,w=>w.2.1
 | _+1,_,_,_,w=>w.2.2.1
theorem WF.sz: ∀ {h:Nat} {lo hi:Bd} {t:Tr h},WF h lo hi t->jD h t<=500
 | 0,_,_,_,w=>w.2.2
 | _+1,_,_,_,w=>w.2.2.2
theorem WX.sz: ∀ {h:Nat} {lo hi:Bd} {t:Tr h},WX h lo hi t->jD h t<=785
 | 0,_,_,_,w=>w.2
 | _+1,_,_,_,w=>w.2
theorem Gen.wx: ∀ {h:Nat} {lo hi:Bd} {t:Tr h},Gen h lo hi t->jD h t<=785->WX h lo hi t
 | 0,_,_,_,w,s=>⟨w,s⟩
 | _+1,_,_,_,w,s=>⟨w,s⟩
theorem Gen.wf: ∀ {h:Nat} {lo hi:Bd} {t:Tr h},Gen h lo hi t->Full h t->jD h t<=500->WF h lo hi t
 | 0,_,_,_,w,f,s=>⟨w,f,s⟩
 | h+1,_,_,t,w,f,s=>⟨w,fun e=>by
  have hl:=w.2.2.len;have a:160<=jL t.1 t.2.length:=f;rw[hl,e]at a;simp[jL,sumL]at a,f,s⟩
def Z7:(h:Nat)->Tr h->Str->Tr h->Tr h
 | 0,a,_,b=>List.append a b
 | _+1,a,s,b=>(a.1++([s]++b.1),a.2++b.2)
theorem zEc: ∀(h:Nat) (a:Tr h) (s:Str) (b:Tr h),con h (Z7 h a s b)=con h a++con h b
 | 0,_,_,_=>rfl
 | h+1,a,s,b=>by simp[con,Z7]
theorem K5 (a b:Kvs):jI (a++b)+2=jI a+jI b:=by
 simp only[jI,leafOf,Nd.size,List.map_append,Nd.sumL_append,qD];omega
theorem sumL_nil:sumL []=0:=rfl
theorem K9 (h:Nat)(a:Tr h)(s:Str)(b:Tr h)(f:s.length<=40):jD h (Z7 h a s b)<=jD h a+jD h b+39/\jD h b<=jD h (Z7 h a s b)/\jD h a<=jD h (Z7 h a s b):=by
 cases h with
 | zero=>
  have key: ∀a b:Kvs,jI (a++b)<=jI a+jI b+39/\jI b<=jI (a++b)/\jI a<=jI (a++b):=fun a b=>by
   have:=K5 a b;have i:2<=jI a:=by simp only[jI,Nd.size];omega
   have j:2<=jI b:=by simp only[jI,Nd.size];omega
   omega
  exact key a b
 | succ h=>
  simp only[jD,Z7,jL,zL,Nd.sumL_append,Nd.sumL_cons,sumL_nil];omega
theorem zDI {h:Nat}{lo hi:Bd}{s:Str}{a b:Tr h}(u:Gen h lo (some s) a)(hb:Gen h (some s) hi b)(m:mayK s=true/\zCl lo s/\hiB hi s):Gen h lo hi (Z7 h a s b):=by
 cases h with
 | zero=>
  obtain⟨i,j⟩:=u;obtain⟨b1,b2⟩:=hb;refine⟨zG4 i b1 fun p hp q v=>vF (j p hp).2.1 (b2 q v).1,fun p hp=> ?_⟩;rcases List.mem_append.1 hp with hp | hp
  .exact⟨(j p hp).1,zDK m.2.2 (.inr (j p hp).2.1),(j p hp).2.2⟩
  .exact⟨(K6 m.2.1 (b2 p hp).1).low,(b2 p hp).2.1,(b2 p hp).2.2⟩
 | succ h=>
  obtain⟨i,j,z⟩:=u;obtain⟨b1,b2,C⟩:=hb;refine⟨fun k f=> ?_, ?_,KB.app C z⟩
  .simp only[Z7,qO,List.mem_singleton]at f;rcases f with f | rfl | f
   .exact⟨(i k f).1,(i k f).2.1,zDK m.2.2 (.inr (i k f).2.2)⟩
   .exact m
   .exact⟨(b1 k f).1,K6 m.2.1 (.inr (b1 k f).2.1),(b1 k f).2.2⟩
  .simp only[Z7];rw[xZ,List.singleton_append,Nd.rising_cons];refine⟨j,⟨fun x o=>(b1 x o).2.1,b2⟩,fun x o y t=> ?_⟩;rcases List.mem_cons.1 t with rfl | t
   .exact(i x o).2.2
   .exact yS (i x o).2.2 (b1 y t).2.1
theorem cI {a b:Kvs} :Srt (a++b)↔Srt a/\Srt b/\ ∀p∈a,∀q∈b,ltS p.1 q.1=true:=by
 induction a with
 | nil=>simp[Srt]
 | cons c a ih=>
  obtain⟨c,w⟩:=c;rw[List.cons_append,Srt,Srt,ih];simp only[qO,List.mem_cons];constructor
  .rintro⟨h1,h2,h3,h4⟩
   refine⟨⟨fun x f=>h1 x (.inl f),h2⟩,h3,fun x f y h=> ?_⟩;rcases f with rfl | f
   .exact h1 y (.inr h)
   .exact h4 x f y h
  .rintro⟨⟨h1,h2⟩,h3,h4⟩
   exact⟨fun x f=>f.elim (h1 x) (h4 _ (.inl rfl) x),h2,h3,fun x f y h=>h4 x (.inr f) y h⟩
def psz:(h:Nat)->Tr h->Nat->Nat
 | 0,l,k=>jI (List.take (α:=Str×Str) k l)
 | _+1,t,k=>jL (t.1.take k) (k+1)
def XE:(h:Nat)->Tr h->Nat
 | 0,l=>List.length (α:=Str×Str) l
 | _+1,t=>t.1.length
def zQ5 (h:Nat)(t:Tr h)(k:Nat):Prop:=
 1<=k/\k+min (h+1) 2<=XE h t/\(k=1\/psz h t k<=(jD h t - 2) / 2+2)/\(k+min (h+1) 2=XE h t\/(jD h t - 2) / 2+2<psz h t (k+1))
def zOH:(h:Nat)->Tr h->Tr h->Str->Tr h->Prop
 | 0,l,a,s,b=> ∃k,zQ5 0 l k/\a=List.take (α:=Str×Str) k l/\s=(List.map Prod.fst (l:Kvs)).getD k []/\b=List.drop (α:=Str×Str) k l
 | h+1,t,a,s,b=> ∃k,zQ5 (h+1) t k/\a=(t.1.take k,t.2.take (k+1))/\s=t.1.getD k []/\b=(t.1.drop (k+1),t.2.drop (k+1))
theorem kF (p:Str×Str)(l:Kvs):jI (p::l)=jI l+(2+p.1.length+p.2.length):=by
 simp only[jI,leafOf,Nd.size,List.map_cons,Nd.sumL_cons,qD];omega
theorem gV:jI []=2:=rfl
theorem zCM {p:Str×Str}(h:mayK p.1=true/\p.2.length<=200):2+p.1.length+p.2.length<=242:=by
 obtain⟨a,f⟩:=h;simp only[mayK,zC,zJ]at a;omega
theorem zKK {lo hi:Bd}{l a b:Kvs}{s:Str}(J:Lf lo hi l)(O:jI l<=785)(hb:500<jI l)(K:zOH 0 l a s b):
  Lf lo (some s) a/\Lf (some s) hi b/\(mayK s=true/\zCl lo s/\hiB hi s)/\a++b=l/\a≠[]/\b≠[]/\jI a<=500/\jI b<=jI l - (jI l - 2) / 2+241:=by
 obtain⟨k,⟨S,x,m,h⟩,rfl,rfl,rfl⟩:=K;simp only[XE,psz,jD,Nat.zero_add,show min 1 2=1 from rfl]at x m h;have i:k<l.length:=x;have o:l.take k++l.drop k=l:=List.take_append_drop _ _;obtain⟨L,f⟩:=J;have u:=L;rw[<-o,cI]at u;obtain⟨N,q,v⟩:=u;have hd:l.drop k=l[k]::l.drop (k+1):=zX i;have C:(l.map Prod.fst).getD k []=(l[k]).1:=by
  rw[zT,qR,zH i];rfl
 rw[C];have hm:l[k]∈l:=qE i;have t:0<l.length:=by omega
 have j:l[0]∈l.take k:=by rw[List.mem_iff_getElem];exact⟨0,by simp;omega,by simp⟩
 have y:ltS (l[0]).1 (l[k]).1=true:=v _ j _ (by rw[hd];exact zF ..);have z:=K5 (l.take k) (l.drop k);rw[o]at z;have T:=zCM (f _ hm).2.2;have F:jI (l.take (k+1))=jI (l.take k)+(2+(l[k]).1.length+(l[k]).2.length):=by
  rw[zU i];have:=K5 (l.take k) [l[k]];rw[kF,gV]at this;omega
 refine⟨⟨N,fun p hp=> ?_⟩,⟨q,fun p hp=> ?_⟩,⟨(f _ hm).2.2.1,zNh (f _ (qE t)).1 y,(f _ hm).2.1⟩,o, ?_, ?_, ?_, ?_⟩
 .exact⟨(f p (List.mem_of_mem_take hp)).1,v p hp _ (by rw[hd];exact zF ..),(f p (List.mem_of_mem_take hp)).2.2⟩
 .refine⟨?_,(f p (List.mem_of_mem_drop hp)).2⟩;rw[hd]at hp q;rcases List.mem_cons.1 hp with rfl | hp
  .exact .inl rfl
  .exact .inr (q.1 p hp)
 .intro e;rw[e]at j;simp at j
 .rw[hd];exact List.cons_ne_nil _ _
 .rcases m with rfl | m
  .have U:jI (l.take 1)<=244:=by
    have:=zCM (f _ (qE t)).2.2
    match l,t with
    | p::l,_=>simp only[List.take_succ_cons,List.take_zero,kF,gV];simp only[List.getElem_cons_zero]at this;omega
   omega
  .omega
 .rcases h with h | h
  .have:l.drop (k+1)=[]:=zZ (by omega);rw[hd,this,kF,gV];omega
  .rw[F]at h;omega
theorem zAp (ks:List Str){k:Nat}(h:k<ks.length):sumL (ks.take (k+1))=sumL (ks.take k)+(1+(ks[k]).length):=by
 rw[zU h,Nd.sumL_append,Nd.sumL_cons,sumL_nil];omega
theorem VA {s:Str}(h:mayK s=true):s.length<=40:=by
 simp only[mayK,zC,zJ]at h;omega
theorem zIs {h:Nat}{lo hi:Bd}{t a b:Tr (h+1)}{s:Str}(S:Inn (WF h) lo hi t)(u:jL t.1 t.2.length<=785)(hb:500<jL t.1 t.2.length)(T:zOH (h+1) t a s b):
  Inn (WF h) lo (some s) a/\Inn (WF h) (some s) hi b/\(mayK s=true/\zCl lo s/\hiB hi s)/\con (h+1) a++con (h+1) b=con (h+1) t/\160<=jL a.1 a.2.length/\160<=jL b.1 b.2.length/\jL a.1 a.2.length<=500/\jL b.1 b.2.length<=500/\jL b.1 b.2.length<=jL t.1 t.2.length - (jL t.1 t.2.length - 2) / 2+57:=by
 obtain⟨k,⟨k1,U,j,f⟩,rfl,rfl,rfl⟩:=T;obtain⟨ks,ts⟩:=t;obtain⟨i,z,p⟩:=S;have K:min (h+1+1) 2=2:=by omega
 simp only[XE,psz,jD,K]at U j f i z p u hb⊢;have o:k<ks.length:=by omega
 have J:=p.len;have L:ks.getD k []=ks[k]:=by rw[zT,zH o];rfl
 rw[L];have C:=zH o;have hm:ks[k]∈ks:=qE o;have F:ks.take k++ks[k]::ks.drop (k+1)=ks:=by rw[<-zX o,List.take_append_drop]
 have hr:=z;rw[<-F,xZ,Nd.rising_cons]at hr;obtain⟨V,⟨W,N⟩,O⟩:=hr;have a0:sumL ks=sumL (ks.take k)+(1+(ks[k]).length+sumL (ks.drop (k+1))):=by
  conv=>lhs;rw[<-F]
  rw[Nd.sumL_append,Nd.sumL_cons]
 have ek:=VA (i _ hm).1;have Y:=zAp ks o;have l1:(ts.take (k+1)).length=k+1:=by rw[zQ];omega
 have Z:(ts.drop (k+1)).length=ks.length - k:=by rw[zV];omega
 rw[l1,Z];have y:k+1<ks.length:=by omega
 have a1:=VA (i _ (qE y)).1;have a2:sumL (ks.drop (k+1))=1+(ks[k+1]).length+sumL (ks.drop (k+2)):=by rw[zX y,Nd.sumL_cons]
 have v:k=1->sumL (ks.take k)<=41:=fun e=>by
  subst e;have:=zAp ks (k:=0) (by omega);have e0:=VA (i _ (qE (show 0<ks.length by omega))).1;rw[this];simp only[List.take_zero,sumL_nil];omega
 have q:k+2=ks.length->sumL (ks.drop (k+2))=0:=fun e=>by rw[e,List.drop_length];rfl
 simp only[jL]at j f u hb⊢;rw[Y]at f;rw[J]at u hb j f;refine⟨⟨fun x m=>⟨(i x (List.mem_of_mem_take m)).1,(i x (List.mem_of_mem_take m)).2.1,O x m _ (zF ..)⟩,V,p.take C⟩,⟨fun x m=>⟨(i x (List.mem_of_mem_drop m)).1,W x m,(i x (List.mem_of_mem_drop m)).2.2⟩,N,p.drop C⟩,i _ hm, ?_, ?_, ?_, ?_, ?_, ?_⟩
 .simp only[con,<-qI,List.take_append_drop]
 .rcases f with f | f
  .have:=q f;omega
  .omega
 .rcases j with rfl | j
  .have:=v rfl;omega
  .omega
 .rcases j with rfl | j
  .have:=v rfl;omega
  .omega
 .rcases f with f | f
  .have:=q f;omega
  .omega
 .rcases f with f | f
  .have:=q f;omega
  .omega
inductive Cuts (h:Nat):Tr h->List (Tr h)->List Str->Prop
 | one {t:Tr h} :jD h t<=500->Cuts h t [t] []
 | more {t a b:Tr h} {s:Str} {ps:List (Tr h)} {ss:List Str} :500<jD h t->zOH h t a s b->Cuts h b ps ss->Cuts h t (a::ps) (s::ss)
theorem zIt {h:Nat}{lo hi:Bd}{t a b:Tr h}{s:Str}(f:WX h lo hi t)(hb:500<jD h t)(p:zOH h t a s b):
  WF h lo (some s) a/\WX h (some s) hi b/\Full h b/\(mayK s=true/\zCl lo s/\hiB hi s)/\con h a++con h b=con h t/\jD h b<=jD h t - (jD h t - 2) / 2+241:=by
 cases h with
 | zero=>
  obtain⟨i,b1,j,e,m,nb,o,q⟩:=zKK f.1 f.2 hb p;have u:=f.2;simp only[jD]at hb⊢;exact⟨⟨i,m,o⟩,⟨b1,by omega⟩,nb,j,e,q⟩
 | succ h=>
  obtain⟨i,b1,j,e,m,nb,o,_,q⟩:=zIs f.1 f.2 hb p;have u:=f.2;simp only[jD]at hb⊢;exact⟨Gen.wf (h:=h+1) i m o,⟨b1,by omega⟩,nb,j,e,by omega⟩
theorem BX {h:Nat}{t:Tr h}{f:List (Tr h)}{q:List Str}(u:Cuts h t f q): ∀ {lo hi:Bd},WX h lo hi t->(Full h t\/500<jD h t)->
  Inn (WF h) lo hi (q,f)/\f.flatMap (con h)=con h t/\f.length<=6/\(jD h t<=635->f.length<=5)/\(jD h t<=560->f.length<=4)/\(jD h t<=522->f.length<=3)/\(jD h t<=503->f.length<=2)/\(jD h t<=500->f.length<=1):=by
 induction u with
 | one m=>
  intro lo hi o p;rcases p with p | p
  .refine⟨⟨by simp,rfl,o.gen.wf p m⟩,by simp,by simp, ?_⟩;simp
  .omega
 | @more t a b s f q hb u _ ih=>
  intro lo hi o _;obtain⟨C,F,J,m,e,z⟩:=zIt o hb u;obtain⟨⟨i,v,y⟩,K,N⟩:=ih F (.inl J);have O:=o.sz;simp only at i v y;refine⟨⟨fun k j=> ?_, ?_,C,y⟩, ?_, ?_⟩
  .rcases List.mem_cons.1 j with rfl | j
   .exact m
   .exact⟨(i k j).1,K6 m.2.1 (.inr (i k j).2.1),(i k j).2.2⟩
  .rw[Nd.rising_cons];exact⟨fun x L=>(i x L).2.1,v⟩
  .rw[zW,K,e]
  .simp only[zO];omega
theorem ZZ {ks:List Str}(h: ∀k∈ks,mayK k=true):sumL ks<=41*ks.length:=by
 induction ks with
 | nil=>simp[sumL]
 | cons k ks ih=>
  have:=VA (h k (zF ..));have:=ih fun x a=>h x (zE _ a)
  rw[Nd.sumL_cons,zO];omega
theorem zJZ {h:Nat}{lo hi:Bd}{ks a:List Str}{ts f:List (Tr h)}{i m:Nat}{x:Tr h}(j:Inn (WF h) lo hi (ks,ts))(hm:i+m<ts.length)(o:WX h (XB lo ks i) (ZU ks hi (i+m)) x)(p:Full h x)(q:Cuts h x f a):
  Inn (WF h) lo hi (ks.take i++a++ks.drop (i+m),ts.take i++f++ts.drop (i+m+1))/\
  con (h+1) (ks.take i++a++ks.drop (i+m),ts.take i++f++ts.drop (i+m+1))=(ts.take i).flatMap (con h)++con h x++(ts.drop (i+m+1)).flatMap (con h)/\
  jL (ks.take i++a++ks.drop (i+m)) (ts.take i++f++ts.drop (i+m+1)).length<=jL ks ts.length+285/\ks.length<=(ks.take i++a++ks.drop (i+m)).length+m:=by
 obtain⟨c1,c2,c3,_⟩:=BX q o (.inl p);have l1:=j.2.2.len;have s:=c1.2.2.len;simp only at l1 s;refine⟨j.splice hm c1, ?_, ?_, ?_⟩
 .simp only[con,qI,c2]
 .have t:=ZZ fun k u=>(c1.1 k u).1
  simp only at t;have e:sumL (ks.take i)+sumL (ks.drop (i+m))<=sumL ks:=by
   have v:sumL ks=sumL (ks.take i)+sumL (ks.drop i):=by rw[<-Nd.sumL_append,List.take_append_drop]
   have y:sumL (ks.drop i)=sumL ((ks.drop i).take m)+sumL (ks.drop (i+m)):=by rw[<-List.drop_drop,<-Nd.sumL_append,List.take_append_drop]
   omega
  simp only[jL,zL,zQ,zV,Nd.sumL_append];omega
 .simp only[zL,zQ,zV];omega
theorem zBg {h:Nat}{a b:Tr h}{s:Str}(i:s.length<=40)(f:Full h a\/Full h b):Full h (Z7 h a s b):=by
 cases h with
 | zero=>
  intro e;have e:List.append (α:=Str×Str) a b=[]:=e;rcases f with f | f
  .exact f (List.append_eq_nil_iff.1 e).1
  .exact f (List.append_eq_nil_iff.1 e).2
 | succ h=>
  have:=K9 (h+1) a s b i;simp only[jD]at this;show 160<=jL _ _;rcases f with f | f
  .have f:160<=jL a.1 a.2.length:=f;omega
  .have f:160<=jL b.1 b.2.length:=f;omega
theorem K2 {h:Nat}{lo hi:Bd}{t:Tr (h+1)}(a:WF (h+1) lo hi t):3<=t.1.length:=by
 obtain⟨⟨f,_,i⟩,_,j,_⟩:=a;have hl:=i.len;have:=ZZ fun k m=>(f k m).1
 simp only[jL]at j;omega
theorem zKc {lo hi:Bd}{l:Kvs}{k v:Str}(f:Lf lo hi l)(hl:zH4 lo k)(j:hiB hi k)(h:mayK k=true)(i:v.length<=200):Lf lo hi (putP k v l)/\jI (putP k v l)<=jI l+242:=by
 refine⟨⟨Nd.srt_put _ _ f.1,fun p hp=> ?_⟩, ?_⟩
 .rcases Nd.mem_put hp with rfl | hp
  .exact⟨hl,j,h,i⟩
  .exact f.2 p hp
 .have m:=zCM (p:=(k,v)) ⟨h,i⟩;simp only at m;clear f
  induction l with
  | nil=>simp only[putP,kF,gV];omega
  | cons a l ih=>
   obtain⟨a,b⟩:=a;simp only[putP];split
   .simp only[kF];omega
   .split
    .simp only[kF];omega
    .simp only[kF];omega
theorem zKd {lo hi:Bd}{l:Kvs}(k:Str)(f:Lf lo hi l):Lf lo hi (delP k l)/\jI (delP k l)<=jI l:=by
 refine⟨⟨Nd.srt_del _ f.1,fun p hp=>f.2 p (Nd.mem_del hp)⟩, ?_⟩;clear f
 induction l with
 | nil=>exact Nat.le_refl _
 | cons a l ih=>
  obtain⟨a,b⟩:=a;simp only[delP];split
  .simp only[kF];omega
  .simp only[kF];omega
end Go.Bt
end
section
namespace Go.Ex
open Go.Nd (Str)
def over (b:Str)(f:Nat)(s:Str):Str:=b.take f++s++b.drop (f+s.length)
end Go.Ex
namespace Go.Bk
open Go.Nd (Str be)
def zOV (u:Nat):Str->Nat
 | []=>u
 | b::l=>zOV (Nat.xor u b.toNat*1099511628211 % 18446744073709551616) l
theorem UM: ∀(s:Str) (u:Nat),u<18446744073709551616->zOV u s<18446744073709551616
 | [],_,h=>h
 | _::l,_,_=>UM l _ (Nat.mod_lt _ (by omega))
theorem zAr: ∀(s:Str) (b:UInt8) (u:Nat),zOV u (s++[b])=Nat.xor (zOV u s) b.toNat*1099511628211 % 18446744073709551616
 | [],_,_=>rfl
 | _::l,b,_=>zAr l b _
def XR (s:Str):Nat:=zOV 14695981039346656037 s
theorem zMA (s:Str):XR s<18446744073709551616:=UM _ _ (by omega)
def wW:Str:=[106,116,116,121]
def BG (kind:UInt8)(birth:Nat)(n:Nat):Str:=wW++([kind,0]++(be 2 n++be 4 birth))
def sealB (kind:UInt8)(birth:Nat)(body:Str):Str:=BG kind birth body.length++(body++List.replicate (500 - body.length) 0)
theorem KD (kind:UInt8)(birth n:Nat):(BG kind birth n).length=12:=by simp[BG,wW,Nd.be_length]
theorem sealB_len {kind:UInt8}{birth:Nat}{body:Str}(h:body.length<=500):(sealB kind birth body).length=512:=by
 simp[sealB,KD];omega
end Go.Bk
namespace Go.Eng
open Go.Nd (Str)
theorem zDa: ∀(n:Nat) (l:List AV),n<=l.length->takeN n l=some (l.take n)
 | 0,_,_=>rfl
 | n+1,[],h=>by simp at h
 | n+1,a::l,h=>by
  have f:=zDa n l (by simpa using h);simp only[takeN,f,List.take_succ_cons]
theorem zPN {H:AH}{A off m cc e:Nat}{g:Bool}{b s:Str}(h:H.h.get A=some (.cells (qU b) e 1 g))(a:H.ok)(hm:off+m<=b.length):
  ∃H',cpy 1 (.slice A off m cc) (S s) H=some (.int .i64 ((min s.length m:Nat):Int),H')/\H'.h.get A=some (.cells (qU (Ex.over b off (s.take (min s.length m)))) e 1 g)/\Stp (fun B=>B=A) H H':=by
 obtain⟨n,j⟩: ∃n,n=min s.length m:=⟨_,rfl⟩;rw[<-j];have p:n<=s.length:=by omega
 have o:Nat.min s.length m=n:=j.symm;have t:takeN (n*1) (qU s)=some (qU (s.take n)):=by
  rw[Nat.mul_one,zDa _ _ (by rw[y5];exact p),qU,qU,List.map_take]
 have u:qW (qU (s.take n))=true:=by
  rw[jC];intro x v;obtain⟨b,_,rfl⟩:=List.mem_map.1 v;rfl
 have y:setAt (qU b) off (qU (s.take n))=some (qU (Ex.over b off (s.take n))):=by
  have hl:(s.take n).length=n:=by rw[zQ];omega
  rw[jW (by rw[y5,y5,hl];omega)];have q:(qU (s.take n)).length=n:=by rw[y5,hl]
  rw[q,Ex.over,hl];simp only[qU,List.map_append,List.map_drop];rw[List.map_take (f:=fun c:UInt8=>AV.int .u8 ((c.toNat:Nat):Int)) (l:=b) (i:=off)]
 refine⟨_, ?_, ?_,(Stp.refl a).put (a.lt h) (.cells (qU (Ex.over b off (s.take n))) e 1 g) (.inr rfl)⟩
 .simp only[cpy,zC5,o,t,u,cond_true,h,show Nat.blt 0 1=true from rfl,y,yQ,yG];rfl
 .rw[AH.put_get,if_pos rfl]
theorem zJE {n A lo hi:Nat}(j:lo<=hi)(m:hi<=n)(s:lo<n)(κ a:IntKind):jY n 1 (.ptr A 0) (some (.int κ (lo:Nat))) (some (.int a (hi:Nat))) none=some (.slice A lo (hi - lo) (2*(n - lo))):=by
 have f:=yK κ (z:=((lo:Nat):Int)) (by omega);have i:=yK a (z:=((hi:Nat):Int)) (by omega);simp only[qA]at f i;have b1:Nat.ble lo hi=true:=by rw[q9];exact j
 have b2:Nat.ble hi n=true:=by rw[q9];exact m
 have o:Nat.beq n lo=false:=by rw[Bool.eq_false_iff];intro h;have:=Nat.eq_of_beq_eq_true h;omega
 have p:((2*n) % 2).beq 0=true:=by rw[Nat.mul_mod_right];rfl
 have q:2*n / 2=n:=Nat.mul_div_cancel_left n (by omega);simp[jY,yZ,f,i,YQ,b1,b2,p,o,q,yG,show Nat.blt 0 1=true from rfl]
theorem zBL {a b:Nat}(f:a<18446744073709551616)(hb:b<256):jM .xor (.int .u64 ((a:Nat):Int)) (.int .u64 (b:Int))=some (.int .u64 ((Nat.xor a b:Nat):Int))/\Nat.xor a b<18446744073709551616:=by
 have h:Nat.blt a (YX .u64)=true:=by rw[zR];exact f
 have i:Nat.blt b (YX .u64)=true:=by rw[zR];exact Nat.lt_trans hb (by decide)
 have hl:Nat.xor a b<18446744073709551616:=Nat.xor_lt_two_pow (n:=64) f (Nat.lt_trans hb (by decide));have j:keq .u64 .u64=true:=rfl;have m:IntKind.wrap .u64 ((Nat.xor a b:Nat):Int)=((Nat.xor a b:Nat):Int):=by rw[wrap_u64];omega
 have o:aC .xor .u64 (.ofNat a) (.ofNat b)=some (.int .u64 ((Nat.xor a b:Nat):Int)):=by
  simp only[aC,IntKind.signed,Bool.not_false,h,i,Bool.and_self,cond_true,wQ,Int.ofNat_eq_natCast,m]
 have p:jM .xor (.int .u64 (.ofNat a)) (.int .u64 (.ofNat b))=aC .xor .u64 (.ofNat a) (.ofNat b):=by simp only[jM,uA,j,cond_true]
 exact⟨p.trans o,hl⟩
theorem zPu (s:Str)(k:IntKind){i:Nat}(h:i<s.length):uW (S s) (.int k ((i:Nat):Int))=some (.int .u8 (((s[i]).toNat:Nat):Int)):=by
 have:=KA s k (z:=((i:Nat):Int)) (by omega) (by simpa using h);simpa using this
theorem WL: ∀(b:Str),wX (List.replicate b.length 7) (qU b) (qU b)=some true
 | []=>rfl
 | x::b=>by
  have h:=QO .u8 ((x.toNat:Nat):Int) ((x.toNat:Nat):Int);have e:cQ .u8=7:=rfl;rw[e,decide_eq_true rfl]at h;simp only[zO,List.replicate_succ,qU,List.map_cons,wX,h];exact WL b
theorem zNP {b:Str}{n:Nat}(h:b.length=n):eqA (List.replicate n 7) (.agg (qU b)) (.agg (qU b))=some true:=by
 subst h;have a:=zH7 (qU b);rw[y5]at a;have f:(List.replicate b.length 7).length=b.length:=List.length_replicate;simp only[eqA,a,f,Nat.add_zero,Nat.beq_refl,Bool.and_self,cond_true,WL]
end Go.Eng
namespace Go.Eng.Sh
open Go.Nd (Ptr Str be)
open Go.Bk
set_option maxRecDepth 20000
theorem zPT (H:AH){A e:Nat}{s:Str}{k:Nat}(a:H.ok)(g:H.h.get A=some (.cells (qU s) e 1 false))(hl:s.length=k):zBx (.slice A 0 k (2*k)) H=some (S s):=
 ZK (n:=k) ⟨by rw[y5,hl,Nat.mul_one], .inr (.inr ⟨_,_,_,_,_,_,_,rfl,g,a.lt g,by rw[y5,hl];omega,by
  rw[List.drop_zero,zP (by rw[y5,hl];omega)]⟩)⟩ (by simp)
theorem st1d {H:AH}(a:H.ok){A o e:Nat}{l:List AV}{x:AV}(h:H.h.get A=some (.cells l e 1 false))(f:Eng.isCell x=true)(i:o<l.length): ∃H',stN 1 (.ptr A o) x H=some (qX,H')/\H'.h.get A=some (.cells (l.set o x) e 1 false)/\Stp (fun B=>B=A) H H':=
 ⟨_,bF h (by decide) f i,by rw[AH.put_get,if_pos rfl],(Stp.refl a).put (a.lt h) _ (.inr rfl)⟩
theorem zLx (x:AV): ∀n,rep n [x]=List.replicate n x
 | 0=>rfl
 | n+1=>by rw[rep,zLx x n,List.replicate_succ];rfl
theorem cJ (n:Nat):rep n [AV.int .u8 ((0:Nat):Int)]=qU (List.replicate n 0):=by
 rw[zLx];simp[qU]
theorem bytesV_cells (b:Str):qW (qU b)=true:=by
 rw[jC];intro x a;obtain⟨b,_,rfl⟩:=List.mem_map.1 a;rfl
theorem kJ {A e k:Nat}{H:AH}{l:List AV}{g:Bool}(h:H.h.get A=some (.cells l e 1 g))(hl:l.length=k):ldN k (.ptr A 0) H=some (.agg l):=by
 rw[qY h,yY _ _ _ (.inr (by omega)),List.drop_zero,<-hl,qJ];rfl
theorem stR {H:AH}(i:H.ok){A e n:Nat}{b b':Str}(h:H.h.get A=some (.cells (qU b) e 1 false))(a:b.length=n)(j:b'.length=n):
  ∃H',stN n (.ptr A 0) (.agg (qU b')) H=some (qX,H')/\H'.h.get A=some (.cells (qU b') e 1 false)/\Stp (fun B=>B=A) H H':=by
 obtain⟨H',f,m,o,_⟩:=y9 i h (l':=qU b') (by rw[y5,y5,a,j]) (bytesV_cells b');rw[y5,a]at f;exact⟨H',f,m,o⟩
theorem ldR {H:AH}{A e n:Nat}{b:Str}{g:Bool}(h:H.h.get A=some (.cells (qU b) e 1 g))(a:b.length=n):ldN n (.ptr A 0) H=some (.agg (qU b)):=kJ h (by rw[y5,a])
theorem zNU (D:Dyn)(n:Nat){H:AH}(s:Str)(t:s.length<n)(u:s.length<=1000000000):f225 D n [S s] H=some (.int .u64 ((XR s:Nat):Int),H):=by
 have m:yF n (ZA D n) [.int .u64 ((14695981039346656037:Nat):Int),S s, .int .i64 ((s.length:Nat):Int), .int .i64 ((0:Nat):Int)] H=some (.exit 0 [.int .u64 ((XR s:Nat):Int)],H):=by
  refine kH (fun i=>[.int .u64 ((XR (s.take i):Nat):Int),S s, .int .i64 ((s.length:Nat):Int), .int .i64 ((i:Nat):Int)]) s.length (fun i hi=> ?_) (fun k=> ?_) n (by omega)
  .have hl:XR (s.take i)<18446744073709551616:=UM _ _ (by omega);have o:=zPu s .i64 hi;have v:=(s[i]).toNat_lt;obtain⟨f,q⟩:=zBL (a:=XR (s.take i)) (b:=(s[i]).toNat) hl (by omega);have p:IntKind.wrap .u64 (((s[i]).toNat:Nat):Int)=(((s[i]).toNat:Nat):Int):=by rw[wrap_u64];omega
   have h:jM .mul (.int .u64 ((Nat.xor (XR (s.take i)) (s[i]).toNat:Nat):Int)) (.int .u64 ((1099511628211:Nat):Int))=some (.int .u64 ((XR (s.take (i+1)):Nat):Int)):=by
    rw[zEl,wrap_u64,zU hi];have e:XR (s.take i++[s[i]])=Nat.xor (XR (s.take i)) (s[i]).toNat*1099511628211 % 18446744073709551616:=zAr _ _ _;rw[e,Int.natCast_emod,Int.natCast_mul];rfl
   have j:((i:Nat):Int)< ((s.length:Nat):Int):=by omega
   have hi1:((i:Nat):Int)+((1:Nat):Int)=((i+1:Nat):Int):=by omega
   simp(maxSteps:=999999)(disch:=omega) only[ZA,eZ,j,o,p,f,h,hi1]
  .refine y7 ?_;simp only[ZA,eZ,qB,qJ]
 simp only[f225,f230,eZ,xI,m,VG]
theorem zIL (D:Dyn)(n:Nat)(o:1000<=n){H:AH}(i:H.ok){b:Str}(hb:b.length=512): ∃H',f208 D n [.agg (qU b)] H=some (.int .u64 ((XR b:Nat):Int),H')/\Prs H H':=by
 obtain⟨a,A1,b1,f,j,p,q⟩:=box i (.cells (qU b) 55 1 false);have m:jY 512 1 (.ptr A1 0) none none none=some (.slice A1 0 512 1024):=rfl;have h:zBx (.slice A1 0 512 1024) a=some (S b):=zPT a f.ok j hb;have e:=zNU D n (H:=a) b (by omega) (by omega);refine⟨a, ?_,f⟩;simp(maxSteps:=999999)(disch:=omega) only[f208,eZ,b1,m,h,e]
theorem zGe (D:Dyn)(n:Nat)(hn:1000<=n){H:AH}(hk:H.ok)(kind:UInt8){birth:Nat}(hb:birth<=2147483647){body:Str}(hl:body.length<=500):
  ∃H',zFo D n [.int .u8 ((kind.toNat:Nat):Int), .int .i64 ((birth:Nat):Int),S body] H=some (.tuple [.agg (qU (sealB kind birth body)), .int .i64 ((0:Nat):Int)],H')/\Prs H H':=by
 obtain⟨Z,F⟩: ∃Z:Str,Z=List.replicate 512 0:=⟨_,rfl⟩;have a0:Z.length=512:=by rw[F];simp
 have a1:rep 512 [AV.int .u8 ((0:Nat):Int)]=qU Z:=by rw[cJ,F]
 obtain⟨H1,A6,b1,t,g1,m1,n1⟩:=box hk (.cells (qU Z) 55 1 false);obtain⟨H2,a,b2,u,g2,m2,n2⟩:=box t.ok (.cells (qU Z) 55 1 false);have N1:=t.next;have N2:=u.next
 have t1: ¬((birth:Nat):Int)< ((0:Nat):Int):=by omega
 have t2: ¬((2147483647:Nat):Int)< ((birth:Nat):Int):=by omega
 have t3: ¬((500:Nat):Int)< ((body.length:Nat):Int):=by omega
 have s0:jY 512 1 (.ptr a 0) none none none=some (.slice a 0 512 1024):=rfl;have s1:jY 512 1 (.ptr a 0) (some (.int .i64 ((6:Nat):Int))) (some (.int .i64 ((8:Nat):Int))) none=some (.slice a 6 2 1012):=rfl;have s2:jY 512 1 (.ptr a 0) (some (.int .i64 ((8:Nat):Int))) (some (.int .i64 ((12:Nat):Int))) none=some (.slice a 8 4 1008):=rfl;have s3:jY 512 1 (.ptr a 0) (some (.int .i64 ((12:Nat):Int))) none none=some (.slice a 12 500 1000):=rfl;have ix:uI 512 1 (.ptr a 0) (.int .i64 ((4:Nat):Int))=some (.ptr a 4):=rfl;have hm:(AV.str 4 2037675114)=S wW:=rfl;obtain⟨H3,v,J,i⟩:=zPN (off:=0) (m:=512) (cc:=1024) (s:=wW) g2 u.ok (by omega);have W:min wW.length 512=4:=rfl;rw[W]at v J;have o3:Ex.over Z 0 (wW.take 4)=wW++(0::List.replicate 507 0):=by
  rw[F];rfl
 rw[o3]at J;obtain⟨H4,e4,L,st4⟩:=st1d i.ok J (o:=4) (x:= .int .u8 ((kind.toNat:Nat):Int)) rfl (by rw[y5];simp[wW]);have o4:(qU (wW++(0::List.replicate 507 0))).set 4 (.int .u8 ((kind.toNat:Nat):Int))=qU ((wW++[kind,0])++List.replicate 506 0):=by
  simp[qU,wW,List.replicate_succ]
 rw[o4]at L;obtain⟨H5,e5,N,j,_⟩:=zGI D n st4.ok (off:=6) (k:=2) (cc:=1012) body.length L (by rw[y5];simp[wW]) (by omega) (by omega);have o5:(qU ((wW++[kind,0])++List.replicate 506 0)).take 6++(qU (be 2 body.length)++(qU ((wW++[kind,0])++List.replicate 506 0)).drop (6+2))=qU ((wW++([kind,0]++be 2 body.length))++List.replicate 504 0):=by
  simp[qU,wW,List.replicate_succ]
 rw[o5]at N;obtain⟨H6,e6,O,p,_⟩:=zGI D n j.ok (off:=8) (k:=4) (cc:=1008) birth N (by rw[y5];simp[wW,Nd.be_length]) (by omega) (by omega);have y:(wW++([kind,0]++be 2 body.length)).length=8:=by simp[wW,Nd.be_length]
 have o6:(qU ((wW++([kind,0]++be 2 body.length))++List.replicate 504 0)).take 8++(qU (be 4 birth)++(qU ((wW++([kind,0]++be 2 body.length))++List.replicate 504 0)).drop (8+4))=qU (BG kind birth body.length++List.replicate 500 0):=by
  obtain⟨Y,T⟩: ∃Y,Y=wW++([kind,0]++be 2 body.length):=⟨_,rfl⟩;rw[<-T]at y⊢;have e1:(qU (Y++List.replicate 504 0)).take 8=qU Y:=by
   simp only[qU,List.map_append];rw[List.take_left' (by rw[qM,y])]
  have e2:(qU (Y++List.replicate 504 0)).drop 12=qU (List.replicate 500 0):=by
   simp only[qU,List.map_append];rw[show 12=8+4 from rfl,<-List.drop_drop,List.drop_left' (by rw[qM,y])];simp
  have v:BG kind birth body.length=Y++be 4 birth:=by rw[T,BG];simp
  rw[e1,show 8+4=12 from rfl,e2,v];simp[qU]
 rw[o6]at O;have z:=KD kind birth body.length;obtain⟨H7,U,K,q⟩:=zPN (off:=12) (m:=500) (cc:=1000) (s:=body) O p.ok (by simp[z]);have V:min body.length 500=body.length:=by omega
 rw[V]at U K;have o7:Ex.over (BG kind birth body.length++List.replicate 500 0) 12 (body.take body.length)=sealB kind birth body:=by
  rw[qJ,Ex.over,List.take_left' z,show 12+body.length=12+body.length from rfl,<-List.drop_drop,List.drop_left' z,List.drop_replicate,sealB,List.append_assoc]
 rw[o7]at K;have M3:=i.next;have M4:=st4.next;have M5:=j.next;have M6:=p.next;have M7:=q.next
 have C:=sealB_len (kind:=kind) (birth:=birth) hl;have a2:H7.h.get A6=some (.cells (qU Z) 55 1 false):=by
  rw[q.keep _ (by omega) (by omega),p.keep _ (by omega) (by omega),j.keep _ (by omega) (by omega),st4.keep _ (by omega) (by omega),i.keep _ (by omega) (by omega)];exact Prs.get u t.ok g1
 obtain⟨H8,e8,g8,a3⟩:=stR q.ok a2 a0 C;have r8:=ldR K C;have r6:=ldR g8 C;have w1:IntKind.wrap .u64 ((body.length:Nat):Int)=((body.length:Nat):Int):=by rw[wrap_u64];omega
 have w2:IntKind.wrap .u64 ((birth:Nat):Int)=((birth:Nat):Int):=by rw[wrap_u64];omega
 refine⟨H8, ?_,(((((((t.trans u).fresh i fun B f=>by omega).fresh st4 fun B f=>by omega).fresh j fun B f=>by omega).fresh p fun B f=>by omega).fresh q fun B f=>by omega).fresh a3 fun B f=>by omega)⟩;simp(maxSteps:=999999)(disch:=omega) only[zFo,eZ,a1,b1,t1,t2,xI,t3,b2,s0,hm,v,ix,e4,s1,zCO,w1,e5,s2,w2,e6,s3,U,r8,e8,r6]
end Go.Eng.Sh
end
section
namespace Go.Bk
open Go.Nd (Str be bee)
theorem seal_parts {kind:UInt8}{birth:Nat}{body:Str} :((sealB kind birth body).drop 6).take 2=be 2 body.length/\((sealB kind birth body).drop 8).take 4=be 4 birth/\((sealB kind birth body).drop 12).take body.length=body/\(sealB kind birth body)[4]? =some kind:=by
 have a:sealB kind birth body=(wW++[kind,0])++(be 2 body.length++(be 4 birth++(body++List.replicate (500 - body.length) 0))):=by simp[sealB,BG]
 have f:sealB kind birth body=(wW++[kind,0]++be 2 body.length)++(be 4 birth++(body++List.replicate (500 - body.length) 0)):=by simp[sealB,BG]
 refine⟨?_, ?_, ?_, ?_⟩
 .rw[a,List.drop_left' (by simp[wW]),List.take_left' (Nd.be_length _ _)]
 .rw[f,List.drop_left' (by simp[wW,Nd.be_length]),List.take_left' (Nd.be_length _ _)]
 .rw[sealB,List.drop_left' (KD _ _ _),List.take_left' rfl]
 .rw[a];simp[wW]
theorem seal_inj {k k':UInt8}{b:Nat}{s s':Str}(m:s.length<=500)(j:s'.length<=500)(e:sealB k b s=sealB k' b s'):k=k'/\s=s':=by
 obtain⟨q1,_,q3,a⟩:=seal_parts (kind:=k) (birth:=b) (body:=s);obtain⟨f,_,h,i⟩:=seal_parts (kind:=k') (birth:=b) (body:=s');rw[e]at q1 q3 a;rw[f]at q1;have hl:=congrArg bee q1;rw[Nd.bee_be,Nd.bee_be,Nat.mod_eq_of_lt (by omega),Nat.mod_eq_of_lt (by omega)]at hl;rw[<-hl,h]at q3;rw[i]at a;exact⟨(Option.some.inj a).symm,q3.symm⟩
end Go.Bk
namespace Go.Eng.Sh
open Go.Nd (Ptr Str be bee)
open Go.Bk
set_option maxRecDepth 20000
theorem rowB {H:AH}(a:H.ok){A e lo k cc:Nat}{b:Str}(g:H.h.get A=some (.cells (qU b) e 1 false))(h:lo+k<=b.length):Rw 1 H (.slice A lo k cc) k (qU ((b.drop lo).take k)):=
 ⟨by rw[y5,zQ,zV];omega, .inr (.inr ⟨_,_,_,_,_,_,_,rfl,g,a.lt g,by rw[y5];omega,by
  rw[Nat.mul_one];simp[qU,List.map_take,List.map_drop]⟩)⟩
theorem zGS (D:Dyn)(n:Nat)(W:1000<=n){H:AH}(Y:H.ok)(kind:UInt8){birth:Nat}(hb:birth<=2147483647){body:Str}(hl:body.length<=500):
  ∃H',zJk D n [.agg (qU (sealB kind birth body))] H=some (.tuple [.int .u8 ((kind.toNat:Nat):Int), .int .i64 ((birth:Nat):Int),S body, .int .i64 ((0:Nat):Int)],H')/\Prs H H':=by
 obtain⟨B,p⟩: ∃B,B=sealB kind birth body:=⟨_,rfl⟩;obtain⟨q1,q2,q3,q⟩:=seal_parts (kind:=kind) (birth:=birth) (body:=body);have f:=sealB_len (kind:=kind) (birth:=birth) hl;rw[<-p]at q1 q2 q3 q f⊢;obtain⟨j,A1,b1,a,i,m1,n1⟩:=box Y (.cells (qU B) 55 1 false);have s1:jY 512 1 (.ptr A1 0) (some (.int .i64 ((6:Nat):Int))) (some (.int .i64 ((8:Nat):Int))) none=some (.slice A1 6 2 1012):=rfl;have s2:jY 512 1 (.ptr A1 0) (some (.int .i64 ((8:Nat):Int))) (some (.int .i64 ((12:Nat):Int))) none=some (.slice A1 8 4 1008):=rfl;have s3:jY 512 1 (.ptr A1 0) (some (.int .i64 ((12:Nat):Int))) (some (.int .u64 ((12+body.length:Nat):Int))) none=some (.slice A1 12 body.length 1000):=by
  have:=zJE (n:=512) (A:=A1) (lo:=12) (hi:=12+body.length) (by omega) (by omega) (by omega) .i64 .u64;rw[this,show 12+body.length - 12=body.length by omega]
 have ix:uI 512 1 (.ptr A1 0) (.int .i64 ((4:Nat):Int))=some (.ptr A1 4):=rfl;have s:=rowB (cc:=1012) a.ok i (lo:=6) (k:=2) (by omega);have t:=rowB (cc:=1008) a.ok i (lo:=8) (k:=4) (by omega);have u:=rowB (cc:=1000) a.ok i (lo:=12) (k:=body.length) (by omega);rw[q1]at s;rw[q2]at t;rw[q3]at u;have K:Rw 1 j (.slice A1 6 2 1012) (be 2 body.length).length (qU (be 2 body.length)):=by rw[Nd.be_length];exact s
 have L:Rw 1 j (.slice A1 8 4 1008) (be 4 birth).length (qU (be 4 birth)):=by rw[Nd.be_length];exact t
 have v:=zBf D n K (by rw[Nd.be_length];omega) (by omega);have x:=zBf D n L (by rw[Nd.be_length];omega) (by omega);rw[Nd.bee_be,Nat.mod_eq_of_lt (by omega)]at v;rw[Nd.bee_be,Nat.mod_eq_of_lt (by omega)]at x;have N:zBx (.slice A1 12 body.length 1000) j=some (S body):=ZK u (by simp);have r4:Eng.ld1 (.ptr A1 4) j=some (.int .u8 ((kind.toNat:Nat):Int)):=kV i (by
  rw[qU,qR,q];rfl)
 obtain⟨H2,y,m⟩:=zGe D n W a.ok kind hb hl;rw[<-p]at y;obtain⟨Z,z⟩: ∃Z:Str,Z=List.replicate 512 0:=⟨_,rfl⟩;have O:Z.length=512:=by rw[z];simp
 have T:rep 512 [AV.int .u8 ((0:Nat):Int)]=qU Z:=by rw[cJ,z]
 obtain⟨H3,A7,b3,o,g3,m3,n3⟩:=box m.ok (.cells (qU Z) 55 1 false);obtain⟨C,e4,g4,F⟩:=stR o.ok g3 O f;have N2:=m.next;have N3:=o.next
 have U:C.h.get A1=some (.cells (qU B) 55 1 false):=by
  rw[F.keep _ (by omega) (by omega)];exact Prs.get (m.trans o) a.ok i
 have r7:=ldR g4 f;have r1:=ldR U f;have he:bW .neq (eqA (List.replicate 512 7) (.agg (qU B)) (.agg (qU B)))=some (.bool false):=by rw[zNP f];rfl
 have t1: ¬((500:Nat):Int)< ((body.length:Nat):Int):=by omega
 have wi:IntKind.wrap .i64 ((birth:Nat):Int)=((birth:Nat):Int):=wrap_i64 (by omega) (by omega);have J:((12:Nat):Int)+((body.length:Nat):Int)=((12+body.length:Nat):Int):=by omega
 have wu:IntKind.wrap .u64 ((12+body.length:Nat):Int)=((12+body.length:Nat):Int):=by rw[wrap_u64];omega
 have V: ¬(((0:Nat):Int)≠((0:Nat):Int)):=by omega
 refine⟨C, ?_,((a.trans m).trans o).fresh F fun B p=>by omega⟩;simp(maxSteps:=999999)(disch:=omega) only[zJk,eZ,b1,s1,v,t1,ix,r4,s2,x,zCO,wi,J,wu,s3,N,y,qV,nth,T,b3,e4,V,r7,r1,he]
def uC (at_:Nat)(birth:Nat)(b:Str):Ptr:=⟨((at_:Nat):Int),((birth:Nat):Int),((XR b:Nat):Int)⟩
theorem zKR (D:Dyn)(n:Nat)(p:1000<=n){H:AH}(N:H.ok)(kind:UInt8){at_ birth:Nat}(ha:1<=at_)(hb:birth<=2147483647){body:Str}(hl:body.length<=500):
  ∃H',f171 D n [.agg (qZ (uC at_ birth (sealB kind birth body))), .agg (qU (sealB kind birth body))] H=some (.tuple [.int .u8 ((kind.toNat:Nat):Int),S body, .int .i64 ((0:Nat):Int)],H')/\Prs H H':=by
 obtain⟨B,q⟩: ∃B,B=sealB kind birth body:=⟨_,rfl⟩;have i:=sealB_len (kind:=kind) (birth:=birth) hl;rw[<-q]at i;obtain⟨H1,A2,b1,m,O,m1,n1⟩:=box N (.cells (qZ (uC at_ birth B)) 42 1 false);obtain⟨s,A3,b2,a,t,m2,n2⟩:=box m.ok (.cells (qU B) 55 1 false);obtain⟨T,U,f⟩:=zIL D n p a.ok i;obtain⟨u,v,x⟩:=zGS D n p f.ok kind hb hl;rw[<-q]at v⊢;have j:=Prs.get a m.ok O;have o:=Prs.get f a.ok j;have y:=Prs.get f a.ok t;have z:=Prs.get x f.ok o;have V:Eng.ld1 (.ptr A2 0) s=some (.int .i64 ((at_:Nat):Int)):=by rw[qT j];rfl
 have W:Eng.ld1 (.ptr A2 2) s=some (.int .u64 ((XR B:Nat):Int)):=by rw[qT j];rfl
 have C:Eng.ld1 (.ptr A2 2) T=some (.int .u64 ((XR B:Nat):Int)):=by rw[qT o];rfl
 have F:Eng.ld1 (.ptr A2 1) u=some (.int .i64 ((birth:Nat):Int)):=by rw[qT z];rfl
 have Y:=ldR t i;have J:=ldR y i;have Z: ¬((at_:Nat):Int)=((0:Nat):Int):=by omega
 have L: ¬(((0:Nat):Int)≠((0:Nat):Int)):=by omega
 have tS: ¬(((XR B:Nat):Int)≠((XR B:Nat):Int)):=fun h=>h rfl
 have tb: ¬(((birth:Nat):Int)≠((birth:Nat):Int)):=fun h=>h rfl
 have ck: ∀K:Rs,chk (some (.int .u64 ((XR B:Nat):Int))) (.int .u64 ((XR B:Nat):Int)) K=K:=fun K=>j8 rfl (by simp[aveq,kO,kP])
 refine⟨u, ?_,((m.trans a).trans f).trans x⟩;simp(maxSteps:=999999)(disch:=omega) only[f171,eZ,b1,b2,V,Z,Y,W,U,C,ck,tS,J,v,qV,nth,L,F,tb]
end Go.Eng.Sh
end
section
namespace Go.Eng
theorem cq:(∀A o,bW .eql (eqP (.ptr A o) .nilPtr)=some (.bool false))/\bW .eql (eqP .nilPtr .nilPtr)=some (.bool true)/\(∀M,bW .eql (eqM (.map M) .nilMap)=some (.bool false))/\(∀A o,bW .neq (eqP (.ptr A o) .nilPtr)=some (.bool true))/\bW .neq (eqP .nilPtr .nilPtr)=some (.bool false):=
 ⟨fun _ _=>rfl,rfl,fun _=>rfl,fun _ _=>rfl,rfl⟩
end Go.Eng
namespace Go.Bk
open Go.Nd (Str)
abbrev Ws:=List (Nat×Str)
def QF (n:Nat):Ws->Option Nat
 | []=>none
 | (a,_)::l=>match QF n l with
  | some i=>some (i+1)
  | none=>if a=n then some 0 else none
theorem QE (n a:Nat)(b:Str): ∀l:Ws,QF n (l++[(a,b)])=if a=n then some l.length else QF n l
 | []=>by simp[QF]
 | (c,d)::l=>by
  simp only[List.cons_append,QF,QE n a b l];by_cases e:a=n
  .simp[e]
  .simp[e]
theorem YW {n:Nat} : ∀ {l:Ws} {i:Nat},QF n l=some i-> ∃h:i<l.length,(l[i]).1=n
 | (a,b)::l,i,h=>by
  simp only[QF]at h
  cases hl:QF n l with
  | some j=>
   rw[hl]at h;simp only[zB]at h;subst h;obtain⟨f,m⟩:=YW hl;exact⟨by simpa using f,by simpa using m⟩
  | none=>
   rw[hl]at h;simp only at h;by_cases e:a=n
   .rw[if_pos e]at h;cases h;exact⟨by simp,e⟩
   .rw[if_neg e]at h;cases h
def blkAt (n:Nat)(l:Ws):Option Str:=(QF n l).bind fun i=>(l[i]?).map (·.2)
theorem QQ (n a:Nat)(b:Str)(l:Ws):blkAt n (l++[(a,b)])=if a=n then some b else blkAt n l:=by
 rw[blkAt,QE];by_cases e:a=n
 .rw[if_pos e,if_pos e];simp
 .rw[if_neg e,if_neg e,blkAt]
  cases hl:QF n l with
  | none=>rfl
  | some i=>
   obtain⟨f,_⟩:=YW hl;simp[qG f]
end Go.Bk
namespace Go.Eng.Sh
open Go.Nd (Ptr Str)
open Go.Bk
set_option maxRecDepth 20000
def wV (w:Nat×Str):List AV:= .int .i64 ((w.1:Nat):Int)::qU w.2
structure DkI (H:AH)(Ad nb:Nat)(ws:Ws)(On Nw:Nat)(wv:AV)(es:List (AV×AV)):Prop where
 gD:H.h.get Ad=some (.cells [.int .i64 ((nb:Nat):Int), .map On,wv, .map Nw, .int .i64 ((0:Nat):Int), .nilSlice, .bool false] 151 1 false)
 gO:H.h.get On=some (.map [6] [])
 gN:H.h.get Nw=some (.map [6] es)
 ow:Own 513 153 H wv ws.length (ws.flatMap wV)
 nw: ∀n:Nat,kQ (.int .i64 ((n:Nat):Int)) es=(QF n ws).map fun i=> .int .i64 ((i:Nat):Int)
 ln: ∀w∈ws,w.2.length=512
 few:ws.length<=1000000
 ne:On≠Nw
theorem zD0 {w:Nat×Str}(h:w.2.length=512):(wV w).length=513:=by simp[wV,y5,h]
theorem zHt: ∀(l:Ws) (i:Nat) (h:i<l.length),(∀w∈l,w.2.length=512)->((l.flatMap wV).drop (i*513)).take 513=wV l[i]
 | p::l,0,_,hl=>by
  rw[Nat.zero_mul,List.drop_zero,zW,List.take_left' (zD0 (hl p zF))];rfl
 | p::l,i+1,h,hl=>by
  rw[zW,show(i+1)*513=513+i*513 by omega,<-List.drop_drop,List.drop_left' (zD0 (hl p zF))];exact zHt l i (by simpa using h) fun w a=>hl w (zE _ a)
def zIN (n:Nat)(a:Ws):Str:=(blkAt n a).getD (List.replicate 512 0)
theorem zKY {n:Nat}{a:Ws}(h: ∀w∈a,w.2.length=512):(zIN n a).length=512:=by
 rw[zIN,blkAt]
 cases hl:QF n a with
 | none=>simp
 | some i=>
  obtain⟨f,_⟩:=YW hl;simp only[Option.bind_some,zH f,Option.map_some,Option.getD_some];exact h _ (qE f)
theorem keyI (z:Int):keyOk [6] (.int .i64 z)=true:=rfl
theorem zMh (D:Dyn)(n:Nat){H:AH}{Ad nb:Nat}{h:Ws}{i j:Nat}{m:AV}{es:List (AV×AV)}(d:DkI H Ad nb h i j m es){k:Nat}(t:k<nb):f74 D n [.ptr Ad 0, .int .i64 ((k:Nat):Int)] H=some (.int .i64 ((0:Nat):Int),H):=by
 have o:Eng.ld1 (.ptr Ad 6) H=some (.bool false):=by rw[qT d.gD];rfl
 have p:Eng.ld1 (.ptr Ad 0) H=some (.int .i64 ((nb:Nat):Int)):=by rw[qT d.gD];rfl
 have a:f120 D n [.ptr Ad 0] H=some (.int .i64 ((0:Nat):Int),H):=by
  simp(maxSteps:=999999)(disch:=omega) only[f120,eZ,cq,o]
 have f: ¬(((0:Nat):Int)≠((0:Nat):Int)):=by omega
 have q: ¬((k:Nat):Int)< ((0:Nat):Int):=by omega
 have s: ¬((nb:Nat):Int)<=((k:Nat):Int):=by omega
 simp(maxSteps:=999999)(disch:=omega) only[f74,eZ,a,f,q,p,s]
theorem zIm (D:Dyn)(n:Nat){H:AH}(q:H.ok){Ad nb:Nat}{a:Ws}{s m:Nat}{u:AV}{es:List (AV×AV)}(d:DkI H Ad nb a s m u es){k:Nat}(S:k<nb):
  ∃H',f25 D n [.ptr Ad 0, .int .i64 ((k:Nat):Int)] H=some (.tuple [.agg (qU (zIN k a)), .int .i64 ((0:Nat):Int)],H')/\Prs H H':=by
 obtain⟨Z,v⟩: ∃Z:Str,Z=List.replicate 512 0:=⟨_,rfl⟩;have T:Z.length=512:=by rw[v];simp
 have F:rep 512 [AV.int .u8 ((0:Nat):Int)]=qU Z:=by rw[cJ,v]
 obtain⟨f,A4,b1,j,Y,m1,n1⟩:=box q (.cells (qU Z) 55 1 false);have h:DkI f Ad nb a s m u es:=⟨Prs.get j q d.gD,Prs.get j q d.gO,Prs.get j q d.gN,d.ow.mono j fun _ _ x=>x,d.nw,d.ln,d.few,d.ne⟩;have L:=zMh D n h S;have J: ¬(((0:Nat):Int)≠((0:Nat):Int)):=by omega
 have N:Eng.ld1 (.ptr Ad 3) f=some (.map m):=by rw[qT h.gD];rfl
 have r1:Eng.ld1 (.ptr Ad 1) f=some (.map s):=by rw[qT h.gD];rfl
 have r2:Eng.ld1 (.ptr Ad 2) f=some u:=by rw[qT h.gD];rfl
 have K:(zIN k a).length=512:=zKY d.ln;obtain⟨H2,y,g2,s2⟩:=stR j.ok Y T K;have z:=ldR g2 K;refine⟨H2, ?_,j.fresh s2 fun B hB=>by omega⟩
 cases hl:QF k a with
 | none=>
  have p:=d.nw k;rw[hl]at p;have t:lkM [6] (.int .i64 ((0:Nat):Int)) true (.map m) (.int .i64 ((k:Nat):Int)) f=some (.tuple [.int .i64 ((0:Nat):Int), .bool false]):=by
   simp only[lkM,keyI,cond_true,h.gN,show QI [6] [6]=true from rfl,p,Option.map_none];rfl
  have U:lkM [6] (.agg (qU Z)) false (.map s) (.int .i64 ((k:Nat):Int)) f=some (.agg (qU Z)):=by
   simp only[lkM,keyI,cond_true,h.gO,show QI [6] [6]=true from rfl,kQ];rfl
  have C:zIN k a=Z:=by rw[zIN,blkAt,hl,v];rfl
  rw[C]at y z⊢;simp(maxSteps:=999999)(disch:=omega) only[f25,eZ,F,b1,L,J,N,t,qV,nth,r1,U,y,z]
 | some i=>
  obtain⟨hi,_⟩:=YW hl;have p:=d.nw k;rw[hl]at p;have t:lkM [6] (.int .i64 ((0:Nat):Int)) true (.map m) (.int .i64 ((k:Nat):Int)) f=some (.tuple [.int .i64 ((i:Nat):Int), .bool true]):=by
   simp only[lkM,keyI,cond_true,h.gN,show QI [6] [6]=true from rfl,p,Option.map_some];rfl
  have C:zIN k a=a[i].2:=by rw[zIN,blkAt,hl];simp[zH hi]
  obtain⟨A,o,c,e,sz,g,q1,q2,q3,q4,O⟩:=Rw.at h.ow.row hi;rw[zHt a i hi d.ln]at O;have V:=q1 .i64 ((i:Nat):Int) rfl;have W:ldN 512 (.ptr A (o+1)) f=some (.agg (qU (zIN k a))):=by
   rw[K8 q2 (by omega),C];have h2:(c.drop (o+1)).take 512=((c.drop o).take 513).drop 1:=by
    rw[List.drop_take,List.drop_drop]
   rw[h2,O];rfl
  simp(maxSteps:=999999)(disch:=omega) only[f25,eZ,F,b1,L,J,N,t,qV,nth,r2,V,W,y,z]
end Go.Eng.Sh
end
section
set_option maxRecDepth 20000
namespace Go.Eng
theorem zL7 (s t:Nat):aveq (.int .u64 (s:Nat)) (.int .u64 (t:Nat))=decide (s=t):=by
 have:keq .u64 .u64=true:=by rw[kO];simp
 simp only[aveq,this,Bool.true_and,kP];rw[Bool.eq_iff_iff];simp only[zJ,beq_iff_eq];exact Int.ofNat_inj
theorem zPn (s:Nat):keyOk [10] (.int .u64 (s:Nat))=true:=rfl
end Go.Eng
namespace Go.Eng.Sh
open Go.Nd (Ptr sumL)
abbrev PN:=List (Nat×Nd.Node)
def y8 (s:Nat):PN->Option Nd.Node
 | []=>none
 | (a,n)::l=>if a=s then some n else y8 s l
def zE9 (s:Nat):PN->PN
 | []=>[]
 | (a,n)::l=>if a=s then l else(a,n)::zE9 s l
def xG (H:AH):List (AV×AV)->PN->Prop
 | [],[]=>True
 | (k,v)::es,(s,nd)::q=>(k= .int .u64 (s:Nat)/\yE H v nd)/\xG H es q
 | _,_=>False
theorem xG.len {H:AH} : ∀ {es:List (AV×AV)} {q:PN},xG H es q->es.length=q.length
 | [],[],_=>rfl
 | _::es,_::q,h=>by simp[xG.len h.2]
 | [],_::_,h=>h.elim
 | _::_,[],h=>h.elim
theorem xG.find {H:AH}(s:Nat): ∀ {es:List (AV×AV)} {q:PN},xG H es q->(∀nd,y8 s q=some nd-> ∃v,kQ (.int .u64 (s:Nat)) es=some v/\yE H v nd/\ ∃k,(k,v)∈es)/\(y8 s q=none->kQ (.int .u64 (s:Nat)) es=none)
 | [],[],_=>⟨fun nd h=>(by cases h),fun _=>rfl⟩
 | (k,v)::es,(t,nd)::q,h=>by
  obtain⟨⟨rfl,i⟩,j⟩:=h;obtain⟨m,o⟩:=xG.find s j;simp only[y8,kQ,zL7];by_cases e:t=s
  .subst e;refine⟨fun a h=> ?_,fun h=>by simp at h⟩;simp only[if_true,zB]at h;subst h;exact⟨v,by simp,i,_,zF ..⟩
  .have f: ¬s=t:=fun h=>e h.symm
   refine⟨fun a h=> ?_,fun h=> ?_⟩
   .rw[if_neg e]at h;obtain⟨p,u,x,k,y⟩:=m a h;exact⟨p,by simp[f,u],x,k,zE _ y⟩
   .rw[if_neg e]at h;simp[f,o h]
 | [],_::_,h=>h.elim
 | _::_,[],h=>h.elim
theorem xG.frame {H H':AH} : ∀ {es:List (AV×AV)} {q:PN},xG H es q->(∀kv∈es,∀nd,yE H kv.2 nd->yE H' kv.2 nd)->xG H' es q
 | [],[],_,_=>trivial
 | (k,v)::es,(s,nd)::q,h,hf=>⟨⟨h.1.1,hf (k,v) (zF ..) nd h.1.2⟩,xG.frame h.2 fun kv a=>hf kv (zE _ a)⟩
 | [],_::_,h,_=>h.elim
 | _::_,[],h,_=>h.elim
theorem xG.snoc {H:AH}{v:AV}{s:Nat}{nd:Nd.Node}(a:yE H v nd): ∀ {es:List (AV×AV)} {q:PN},xG H es q->xG H (es++[(.int .u64 (s:Nat),v)]) (q++[(s,nd)])
 | [],[],_=>⟨⟨rfl,a⟩,trivial⟩
 | _::es,_::q,h=>⟨h.1,xG.snoc a h.2⟩
 | [],_::_,h=>h.elim
 | _::_,[],h=>h.elim
theorem kN (s:Nat): ∀(a b:PN),y8 s (a++b)=match y8 s a with | some n=>some n | none=>y8 s b
 | [],_=>rfl
 | (t,n)::a,b=>by
  simp only[List.cons_append,y8];split
  .rfl
  .exact kN s a b
theorem setA_none {k v:AV} : ∀ {es:List (AV×AV)},kQ k es=none->zAd k v es=none
 | [],_=>rfl
 | (a,b)::es,h=>by
  simp only[kQ]at h;simp only[zAd]
  cases e:aveq k a with
  | true=>rw[e]at h;cases h
  | false=>rw[e]at h;simp only[cond_false]at h⊢;rw[setA_none h]
theorem xG.del {H:AH}(s:Nat): ∀ {es:List (AV×AV)} {q:PN},xG H es q->(∀nd,y8 s q=some nd-> ∃es',zIp (.int .u64 (s:Nat)) es=some es'/\xG H es' (zE9 s q)/\ ∀kv∈es',kv∈es)
 | [],[],_=>fun nd h=>by cases h
 | (k,v)::es,(t,nd)::q,h=>by
  obtain⟨⟨rfl,j⟩,i⟩:=h;have m:=xG.del s i;simp only[y8,zIp,zL7,zE9];by_cases e:t=s
  .subst e;intro f _;exact⟨es,by simp,by simpa using i,fun kv a=>zE _ a⟩
  .have o: ¬s=t:=fun h=>e h.symm
   intro f h;rw[if_neg e]at h;obtain⟨es',p,u,x⟩:=m f h;refine⟨(.int .u64 (t:Nat),v)::es',by simp[o,p], ?_,fun kv a=> ?_⟩
   .rw[if_neg e];exact⟨⟨rfl,j⟩,u⟩
   .rcases List.mem_cons.1 a with rfl | a
    .exact zF ..
    .exact zE _ (x kv a)
 | [],_::_,h=>h.elim
 | _::_,[],h=>h.elim
def zQ4 (o:AObj):Prop:=(∃x r e g,o= .cells (x::r) e 1 g/\ ∀l b,x≠ .str l b)\/(∃ks es,o= .map ks es)\/ ∃l e k g,o= .cells l e k g/\k≠1/\k≠3
theorem yV.nsep {k e n:Nat}{H:AH}{v:AV}{l:List AV}(h:yV k e H v n l){A:Nat}{o:AObj}(a:H.h.get A=some o)(i: ∀j g,o≠ .cells l j k g): ¬Blk v A:=by
 intro hb;rcases h with⟨_,⟨rfl,_⟩ | ⟨B,rfl,_,f⟩⟩ | ⟨_,B,j,g,rfl,_,f,_⟩
 .exact Blk.nil.1 hb
 .rw[Blk.slice.1 hb]at a;rw[f]at a;exact i _ _ (Option.some.inj a).symm
 .rw[Blk.slice.1 hb]at a;rw[f]at a;exact i _ _ (Option.some.inj a).symm
theorem yE.nblk {H:AH}{v:AV}{nd:Nd.Node}{A:Nat}{o:AObj}(h:yE H v nd)(f:H.h.get A=some o)(i:zQ4 o): ¬kR v A:=by
 obtain⟨ks,vs,J,rfl,m,p,q⟩:=h;have j: ∀(l:List Str),∀a g,o≠ .cells (l.map S) a 1 g:=fun l a g e=>by
  rcases i with⟨x,r,s,t,rfl,u⟩ | ⟨_,_,rfl⟩ | ⟨_,_,_,_,rfl,z,C⟩
  .simp only[AObj.cells.injEq]at e
   cases l with
   | nil=>simp at e
   | cons y l=>
    simp only[List.map_cons,List.cons.injEq]at e;exact u _ _ e.1.1
  .cases e
  .simp only[AObj.cells.injEq]at e;omega
 have F: ∀a g,o≠ .cells (nd.kids.flatMap qZ) a 3 g:=fun a g e=>by
  rcases i with⟨x,r,s,t,rfl,_⟩ | ⟨_,_,rfl⟩ | ⟨_,_,_,_,rfl,z,C⟩
  .simp only[AObj.cells.injEq]at e;omega
  .cases e
  .simp only[AObj.cells.injEq]at e;omega
 intro hb;rcases jK.1 hb with h | h | h
 .exact yV.nsep m f (j _) h
 .exact yV.nsep p f (j _) h
 .exact yV.nsep q f F h
theorem yE.stp {S:Nat->Prop}{H H':AH}{v:AV}{nd:Nd.Node}(h:yE H v nd)(s:Stp S H H')(f: ∀A,kR v A-> ¬S A):yE H' v nd:=by
 obtain⟨ks,vs,i,rfl,j,m,o⟩:=h;exact⟨ks,vs,i,rfl,j.mono s (fun A a=>f A (jK.2 (.inl a))),m.mono s (fun A a=>f A (jK.2 (.inr (.inl a)))),o.mono s (fun A a=>f A (jK.2 (.inr (.inr a))))⟩
theorem yE.lt {H:AH}{v:AV}{nd:Nd.Node}(h:yE H v nd){B:Nat}(a:kR v B):B<H.next:=by
 obtain⟨ks,vs,m,rfl,f,i,j⟩:=h;rcases jK.1 a with h | h | h
 .exact f.lt h
 .exact i.lt h
 .exact j.lt h
theorem Stp.thr {S T:Nat->Prop}{H0 H a:AH}(h:Stp S H0 H)(k:Stp T H a)(f: ∀A,T A->H0.next<=A\/S A):Stp S H0 a:=
 ⟨k.ok,Nat.le_trans h.next k.next,fun A i j=>by
  rw[k.keep A (zY i h.next) (fun x=>by rcases f A x with y | y;omega;exact j y),h.keep A i j]⟩
def jX (d c:AV)(root:Ptr)(M a:Nat)(f:AV):List AV:=[d,c, .int .i64 root.at_, .int .i64 root.birth, .int .u64 root.sum, .map M, .int .u64 (a:Nat),f]
structure Ev where
 nb:Nat
 ws:Bk.Ws
 dl:List Ptr
def OnD (E:Ev)(p:Ptr)(nd:Nd.Node):Prop:= ∃(a birth:Nat) (kind:UInt8) (body:Str),p=uC a birth (Bk.sealB kind birth body)/\2<=a/\a<E.nb/\(a<8192/\ ∀k∈nd.kids,k.at_≠1)/\birth<=2147483647/\body.length<=500/\Bk.blkAt a E.ws=some (Bk.sealB kind birth body)/\(kind=1\/kind=2)/\Nd.decN ltS (decide (kind=1)) body=some nd
theorem zN7 {E:Ev}{p:Ptr}{nd f:Nd.Node}(h:OnD E p nd)(o:OnD E p f):nd=f:=by
 obtain⟨a,b,k,s,rfl,_,_,_,hb,q,t,_,u⟩:=h;obtain⟨v,b',k',s',e,_,_,_,F,m,i,_,j⟩:=o;simp only[uC,Ptr.mk.injEq]at e;have x:a=v:=by omega
 have y:b=b':=by omega
 subst x;subst y;rw[t]at i;obtain⟨z,C⟩:=Bk.seal_inj q m (Option.some.inj i);subst z;subst C;rw[u]at j;exact Option.some.inj j
open Classical in
noncomputable def Ev.K (E:Ev)(p:Ptr):Option Nd.Node:=if h: ∃nd,OnD E p nd then some (Classical.choose h)else none
theorem Ev.K_iff {E:Ev}{p:Ptr}{nd:Nd.Node} :E.K p=some nd↔OnD E p nd:=by
 rw[Ev.K];constructor
 .intro h;split at h
  .rename_i a;rw[<-Option.some.inj h];exact Classical.choose_spec a
  .cases h
 .intro h;rw[dif_pos ⟨nd,h⟩];exact congrArg some (zN7 (Classical.choose_spec (⟨nd,h⟩: ∃nd,OnD E p nd)) h)
def pp (s:Nat):Ptr:=⟨1,0,(s:Nat)⟩
noncomputable def Qf (E:Ev)(q f:PN)(p:Ptr):Option Nd.Node:=if p=pp p.sum.toNat then(match y8 p.sum.toNat f with | some n=>some n | none=>y8 p.sum.toNat q)else E.K p
theorem zA9 (E:Ev)(q f:PN)(s:Nat):Qf E q f (pp s)=match y8 s f with | some n=>some n | none=>y8 s q:=by simp[Qf,pp]
theorem xF {E:Ev}{q f:PN}{p:Ptr}{nd:Nd.Node}(h:Qf E q f p=some nd):(∃s,p=pp s/\(y8 s f=some nd\/(y8 s f=none/\y8 s q=some nd)))\/((∀s,p≠pp s)/\E.K p=some nd):=by
 simp only[Qf]at h;split at h
 .rename_i e;refine .inl ⟨_,e, ?_⟩;split at h
  .rename_i n a;exact .inl (a.trans h)
  .rename_i a;exact .inr ⟨a,h⟩
 .rename_i e;exact .inr ⟨fun s es=>e (by rw[es];simp[pp]),h⟩
theorem X2 {E:Ev}{q f:PN}{p:Ptr}(h: ∀s,p≠pp s):Qf E q f p=E.K p:=by rw[Qf,if_neg (h _)]
structure TI (E:Ev)(H:AH)(At M:Nat)(d c:AV)(root:Ptr)(es:List (AV×AV))(q:PN)(last:Nat)(dr:AV):Prop where
 ok:H.ok
 gT:H.h.get At=some (.cells (jX d c root M last dr) 140 1 false)
 gM:H.h.get M=some (.map [10] es)
 pq:xG H es q
 dk: ∃Ad On Nw wv ds,d= .ptr Ad 0/\DkI H Ad E.nb E.ws On Nw wv ds
 cn:c= .nilPtr\/ ∀p,E.K p=none
 dg:yV 3 42 H dr E.dl.length (E.dl.flatMap qZ)
 ds: ∀kv∈es,∀B,kR kv.2 B-> ¬Blk dr B
 few:q.length<=1000000000
theorem TI.hd {E:Ev}{H:AH}{At M a:Nat}{d c f:AV}{root:Ptr}{es:List (AV×AV)}{q:PN}(h:TI E H At M d c root es q a f): ∃A o,d= .ptr A o:=by
 obtain⟨A,_,_,_,_,e,_⟩:=h.dk;exact⟨A,0,e⟩
theorem DkI.stp {S:Nat->Prop}{H H':AH}{Ad nb:Nat}{j:Bk.Ws}{a f:Nat}{h:AV}{es:List (AV×AV)}(d:DkI H Ad nb j a f h es)(i:H.ok)(s:Stp S H H')(m: ¬S Ad)(o: ¬S a)(p: ¬S f)(q: ∀B,Blk h B-> ¬S B):DkI H' Ad nb j a f h es:=
 ⟨by rw[s.keep _ (i.lt d.gD) m];exact d.gD,by rw[s.keep _ (i.lt d.gO) o];exact d.gO,by rw[s.keep _ (i.lt d.gN) p];exact d.gN,d.ow.mono s q,d.nw,d.ln,d.few,d.ne⟩
theorem DkI.prs {H H':AH}{Ad nb:Nat}{a:Bk.Ws}{f h:Nat}{i:AV}{es:List (AV×AV)}(d:DkI H Ad nb a f h i es)(j:H.ok)(s:Prs H H'):DkI H' Ad nb a f h i es:=d.stp j s (fun x=>x) (fun x=>x) (fun x=>x) fun _ _ x=>x
theorem TI.prs {E:Ev}{H H':AH}{At M a:Nat}{d c f:AV}{root:Ptr}{es:List (AV×AV)}{q:PN}(h:TI E H At M d c root es q a f)(s:Prs H H'):TI E H' At M d c root es q a f:=
 ⟨s.ok,Prs.get s h.ok h.gT,Prs.get s h.ok h.gM,h.pq.frame fun kv _ nd i=>i.prs s,by
  obtain⟨Ad,j,m,o,p,e,hd⟩:=h.dk;exact⟨Ad,j,m,o,p,e,hd.prs h.ok s⟩,h.cn,h.dg.mono s fun _ _ x=>x,h.ds,h.few⟩
theorem QA (D:Dyn)(n:Nat){H:AH}{E:Ev}{At M a:Nat}{d c f:AV}{root:Ptr}{es:List (AV×AV)}{q:PN}(h:TI E H At M d c root es q a f):f73 D n [.ptr At 0] H=some (.bool false,H):=by
 obtain⟨A,o,rfl⟩:=h.hd;simp only[f73,eZ,cq,qT h.gT,jX]
theorem zNd (D:Dyn)(n:Nat){H:AH}{E:Ev}{At M a:Nat}{d c i:AV}{root:Ptr}{es:List (AV×AV)}{q:PN}(h:TI E H At M d c root es q a i):f76 D n [.ptr At 0] H=some (.int .i64 ((8192+q.length:Nat):Int),H):=by
 have j:=h.few;have f:aZ (.map M) H=some (.int .i64 ((q.length:Nat):Int)):=by
  simp only[aZ,h.gM,yG,h.pq.len];rfl
 have e:((8192:Nat):Int)+((q.length:Nat):Int)=((8192+q.length:Nat):Int):=by omega
 simp(disch:=omega) only[f76,eZ,qT h.gT,jX,f,e]
theorem zAI (D:Dyn)(n:Nat){E:Ev}{H:AH}{At M O s:Nat}{d c Z:AV}{root:Ptr}{es:List (AV×AV)}{q:PN}{nd:Nd.Node}(h:TI E H At M d c root es q O Z)(hs:y8 s q=some nd):
  ∃v H',f77 D n [.ptr At 0, .agg (qZ (pp s))] H=some (.tuple [v, .int .i64 ((0:Nat):Int)],H')/\Prs H H'/\yE H' v nd/\ ∃k,(k,v)∈es:=by
 obtain⟨v,f1,x,hm⟩:=(h.pq.find s).1 nd hs;obtain⟨H1,y,b1,f,z,m1,n1⟩:=box h.ok (.cells [.int .i64 ((1:Nat):Int), .int .i64 ((0:Nat):Int), .int .u64 (s:Nat)] 42 1 false);obtain⟨C,A4,b2,i,g2,m2,n2⟩:=box f.ok (.cells [.bool false, .nilSlice, .nilSlice, .nilSlice] 119 1 false);have a:Prs H C:=f.trans i;obtain⟨F,A6,b3,j,g3,m3,n3⟩:=box a.ok (.cells [.bool false, .nilSlice, .nilSlice, .nilSlice] 119 1 false);have J:=a.trans j;obtain⟨l,rfl,o,K⟩:=x.cells;obtain⟨m,e4,g4,p,n4⟩:=y9 J.ok g3 (l':=l) o K;have S:stN 4 (.ptr A6 0) (.agg l) F=some (qX,m):=e4;have L:Prs H m:=J.fresh p (fun B hB=>by have:=a.next;omega)
 obtain⟨t,e5,g5,s5,n5⟩:=y9 L.ok (show m.h.get A4=some (.cells [.bool false, .nilSlice, .nilSlice, .nilSlice] 119 1 false)by rw[p.keep _ (by have:=j.next;omega) (by omega)];exact Prs.get j a.ok g2) (l':=l) o K
 have T:stN 4 (.ptr A4 0) (.agg l) m=some (qX,t):=e5;have N:Prs H t:=L.fresh s5 (fun B hB=>by have:=f.next;omega)
 have u:F.h.get y=some (.cells [.int .i64 ((1:Nat):Int), .int .i64 ((0:Nat):Int), .int .u64 (s:Nat)] 42 1 false):=Prs.get j a.ok (Prs.get i f.ok z);have U:=Prs.get i f.ok z;have V:m.h.get y=some (.cells [.int .i64 ((1:Nat):Int), .int .i64 ((0:Nat):Int), .int .u64 (s:Nat)] 42 1 false):=by rw[p.keep _ (by have:=i.next;have:=j.next;omega) (by have:=i.next;omega)];exact u
 have W:lkM [10] (.agg [.bool false, .nilSlice, .nilSlice, .nilSlice]) true (.map M) (.int .u64 (s:Nat)) C=some (.tuple [.agg l, .bool true]):=by
  simp only[lkM,zPn,cond_true,Prs.get a h.ok h.gM,show QI [10] [10]=true from rfl,f1];rfl
 refine⟨.agg l,t, ?_,N,x.prs N,hm⟩;have Y: ¬(((0:Nat):Int)≠((0:Nat):Int)):=by omega
 have hp:qZ (pp s)=[.int .i64 ((1:Nat):Int), .int .i64 ((0:Nat):Int), .int .u64 (s:Nat)]:=rfl;rw[hp];simp(maxSteps:=999999)(disch:=omega) only[f77,eZ,b1,b2,qT U,qT u,qT V,qT (Prs.get a h.ok h.gT),jX,W,qV,nth,b3,S,Y,vU g4 o,T,vU g5 o]
theorem ZT.free {H0 H:AH}{v:AV}{nd:Nd.Node}(h:ZT H0 H v nd):wN H0.next H v nd:=by
 obtain⟨ks,vs,a,rfl,f,i,j,m,_⟩:=h;exact⟨⟨ks,vs,a,rfl, .inl f, .inl i, .inl j⟩,fun B o=>m B (jK.1 o)⟩
theorem zO3 (D:Dyn)(n:Nat)(hn:1000<=n){E:Ev}{H:AH}{At M K:Nat}{d dr:AV}{root:Ptr}{es:List (AV×AV)}{q:PN}(h:TI E H At M d .nilPtr root es q K dr){a birth:Nat}{kind:UInt8}{body:Str}(ha:2<=a)(N:a<E.nb)(hb:birth<=2147483647)(hl:body.length<=500)(L:Bk.blkAt a E.ws=some (Bk.sealB kind birth body)):
  ∃H',zKz D n [.ptr At 0, .agg (qZ (uC a birth (Bk.sealB kind birth body)))] H=some (.tuple [.int .u8 ((kind.toNat:Nat):Int),S body, .int .i64 ((0:Nat):Int)],H')/\Prs H H':=by
 obtain⟨B,m⟩: ∃B,B=Bk.sealB kind birth body:=⟨_,rfl⟩;have o:=Bk.sealB_len (kind:=kind) (birth:=birth) hl;obtain⟨p,s,b1,f,v,m1,n1⟩:=box h.ok (.cells (qZ (uC a birth B)) 42 1 false);obtain⟨Z,x⟩: ∃Z:Str,Z=List.replicate 512 0:=⟨_,rfl⟩;have O:Z.length=512:=by rw[x];exact List.length_replicate
 have T:rep 512 [AV.int .u8 ((0:Nat):Int)]=qU Z:=by rw[cJ,x]
 obtain⟨H2,a1,b2,i,g2,m2,n2⟩:=box f.ok (.cells (qU Z) 55 1 false);have N1:=f.next;have N2:=i.next
 have h2:=(h.prs f).prs i;obtain⟨Ad,On,Nw,wv,ds,rfl,hd⟩:=h2.dk;obtain⟨H3,y,j⟩:=zIm D n i.ok hd N;have U:zIN a E.ws=B:=by rw[zIN,L,m];rfl
 rw[U]at y;rw[<-m]at o;obtain⟨t,e4,g4,z⟩:=stR j.ok (Prs.get j i.ok g2) O o;have N3:=j.next
 have u:Prs H t:=((f.trans i).trans j).fresh z fun B m=>by omega
 have V:t.h.get s=some (.cells (qZ (uC a birth B)) 42 1 false):=by
  rw[z.keep _ (by omega) (by omega)];exact Prs.get (i.trans j) f.ok v
 obtain⟨C,F,J⟩:=zKR D n hn u.ok kind (at_:=a) (by omega) hb hl;rw[<-m]at F⊢;have h5:=(h.prs u).prs J;have c1:Eng.ld1 (.ptr At 1) p=some .nilPtr:=by rw[qT (h.prs f).gT];rfl
 have W:Eng.ld1 (.ptr At 0) p=some (.ptr Ad 0):=by rw[qT (h.prs f).gT];rfl
 have c5:Eng.ld1 (.ptr At 1) C=some .nilPtr:=by rw[qT h5.gT];rfl
 have r1:Eng.ld1 (.ptr s 0) p=some (.int .i64 ((a:Nat):Int)):=by rw[qT v];rfl
 have Y:ldN 3 (.ptr s 0) t=some (.agg (qZ (uC a birth B))):=by rw[qY V];rfl
 have r4:=ldR g4 o;have a0: ¬(((0:Nat):Int)≠((0:Nat):Int)):=by omega
 refine⟨C, ?_,u.trans J⟩;simp(maxSteps:=999999)(disch:=omega) only[zKz,VP,VO,eZ,b1,c1,cq,W,r1,T,b2,y,qV,nth,e4,a0,Y,r4,F,c5]
theorem zGn (m n:Nat)(hn:200000000<=n){E:Ev}{H:AH}{At M a1:Nat}{d c dr:AV}{root p:Ptr}{es:List (AV×AV)}{q:PN}{nd:Nd.Node}(h:TI E H At M d c root es q a1 dr)(x:E.K p=some nd):
  ∃v H',f77 (dy (m+1)) n [.ptr At 0, .agg (qZ p)] H=some (.tuple [v, .int .i64 ((0:Nat):Int)],H')/\Prs H H'/\yE H' v nd/\ ∀B,kR v B->H.next<=B:=by
 have hc:c= .nilPtr:=by
  rcases h.cn with e | e
  .exact e
  .rw[e]at x;cases x
 subst hc;obtain⟨a,birth,kind,body,rfl,ha,a3,_,hb,hl,a2,a0,J⟩:=Ev.K_iff.1 x;obtain⟨B,f⟩: ∃B,B=Bk.sealB kind birth body:=⟨_,rfl⟩;obtain⟨H1,O,b1,i,T,m1,n1⟩:=box h.ok (.cells (qZ (uC a birth B)) 42 1 false);obtain⟨U,A4,b2,j,g2,m2,n2⟩:=box i.ok (.cells [.bool false, .nilSlice, .nilSlice, .nilSlice] 119 1 false);have N1:=i.next;have N2:=j.next
 have V:=i.trans j;obtain⟨H3,o,t⟩:=zO3 (dy (m+1)) n (by omega) (h.prs V) ha a3 hb hl a2;rw[<-f]at o⊢;obtain⟨v,W,Y,u,hO,l,rfl,y,lc⟩:=zIq m n hn t.ok (decide (kind=1)) body;rw[J]at Y;have z:=(hO nd J).free;have N3:=t.next;have N4:=u.next
 have P4:=(V.trans t).trans u;obtain⟨Z,e5,g5,s5,n5⟩:=y9 u.ok (Prs.get (t.trans u) j.ok g2) (l':=l) y lc;have L:stN 4 (.ptr A4 0) (.agg l) W=some (qX,Z):=e5;have s:f123 (dy (m+1)) n [.bool (decide (kind=1)),S body] H3=some (.tuple [.agg l, .int .i64 ((0:Nat):Int)],W):=Y;have r1:Eng.ld1 (.ptr O 0) U=some (.int .i64 ((a:Nat):Int)):=by rw[qT (Prs.get j i.ok T)];rfl
 have r3:ldN 3 (.ptr O 0) U=some (.agg (qZ (uC a birth B))):=by rw[qY (Prs.get j i.ok T)];rfl
 have t1: ¬((a:Nat):Int)=((1:Nat):Int):=by omega
 have N: ¬(((0:Nat):Int)≠((0:Nat):Int)):=by omega
 refine⟨.agg l,Z, ?_,P4.fresh s5 fun B f=>by omega,z.1.stp s5 fun B f e=> ?_,fun B f=> ?_⟩
 .rcases a0 with rfl | rfl
  .have C:(((1:UInt8).toNat:Nat):Int)=((1:Nat):Int):=rfl;have F:decide ((1:UInt8)=1)=true:=rfl;have a4: ¬(((1:Nat):Int)≠((1:Nat):Int)):=by omega
   rw[C]at o;rw[F]at s;simp(maxSteps:=999999)(disch:=omega) only[f77,eZ,b1,b2,r1,t1,r3,o,qV,nth,N,a4,s,L,vU g5 y]
  .have C:(((2:UInt8).toNat:Nat):Int)=((2:Nat):Int):=rfl;have F:decide ((2:UInt8)=1)=false:=rfl;have a7:((2:Nat):Int)≠((1:Nat):Int):=by omega
   have a5: ¬(((2:Nat):Int)≠((2:Nat):Int)):=by omega
   have a6: ¬((2:Nat):Int)=((1:Nat):Int):=by omega
   rw[C]at o;rw[F]at s;simp(maxSteps:=999999)(disch:=omega) only[f77,eZ,b1,b2,r1,t1,r3,o,qV,nth,N,ne_eq,a6,not_false_eq_true,a5,s,L,vU g5 y]
 .have:=z.2 B f;omega
 .have:=z.2 B f;omega
theorem zCa (m n:Nat)(i:200000000<=n){E:Ev}{H:AH}{At M f:Nat}{d c j:AV}{root p:Ptr}{es:List (AV×AV)}{q:PN}{nd:Nd.Node}(h:TI E H At M d c root es q f j)(o:Qf E q [] p=some nd):
  ∃v H',f77 (dy (m+1)) n [.ptr At 0, .agg (qZ p)] H=some (.tuple [v, .int .i64 ((0:Nat):Int)],H')/\Prs H H'/\yE H' v nd/\((∃k,(k,v)∈es)\/ ∀B,kR v B->H.next<=B):=by
 rcases xF o with⟨s,rfl,a | ⟨_,a⟩⟩ | ⟨_,a⟩
 .simp[y8]at a
 .obtain⟨v,H',e,p,g,k⟩:=zAI (dy (m+1)) n h a;exact⟨v,H',e,p,g, .inl k⟩
 .obtain⟨v,H',e,p,g,k⟩:=zGn m n i h a;exact⟨v,H',e,p,g, .inr k⟩
end Go.Eng.Sh
end

