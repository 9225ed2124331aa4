/- Part 7: no condition. -/
import Derived.Test.YtaaflpnhdkoaeaaGreatO6
set_option linter.all false
set_option maxHeartbeats 8000000
set_option maxRecDepth 20000
open Go.Nd (Ptr leafOf mayK sumL)
variable (D:Go.Eng.Dyn)(n:Nat){h L:Go.Eng.AH}{A B N Y j:Nat}{w q z:Nat->Prop}{l m:Go.Nd.Kvs}{p f:Go.Eng.AV}{t:Go.Nd.Ptr->Option Go.Nd.Node}{e:List Go.Nd.Ptr}{C:Go.Nd.Node}{E:Go.Nd.Ptr}{F:List (Go.Eng.AV×Go.Eng.AV)}{J:Nat->Nat}{P:List Go.Eng.AV}{R:Go.Eng.Sh.Ev}{V:Go.Eng.Sh.PN}{W:List (Go.Nd.Ptr×Go.Nd.Node)}{a:Go.Eng.AH->(Nat->Prop)->Prop}{g:Type}{u:Go.Bk.Ws}
namespace Go.Eng.Sh
open Go.Nd (Str Kvs)
open Go.Bk Go.Bt
theorem uL.node {H:AH} : ∀ {es:List (AV×AV)} {q:PN},uL H es q-> ∀kv∈es,∃nd,jZ H kv.2 nd
 | [],[],_=>fun _ h=>by simp at h
 | (k,v)::es,(s,nd)::q,h=>fun kv a=>by
  rcases zK.1 a with rfl | a
  .exact⟨nd,h.1.2⟩
  .exact uL.node h.2 kv a
 | [],_::_,h=>h.elim
 | _::_,[],h=>h.elim
theorem zA7 {nb la:Nat}{d:AV}(As:TI R h A B p f E F V la d)(M:Dsk h N Y nb u j J w): ∀At,(At=A\/At=B\/Blk d At\/ ∃kv∈F,xS kv.2 At)-> ¬w At:=by
 obtain⟨On,Nw,wv,dm,ws,O,S,_⟩:=M;obtain⟨y,T,C,z,_⟩:=O;have Ad:=As.gT;have key: ∀(o:AObj),zRb o->(∀l t g,o≠ .cells l t 3 g)->o≠ .cells (wN p f E B la d) 140 1 false->o≠ .map [10] F-> ∀At,h.h.get At=some o-> ¬(At=A\/At=B\/Blk d At\/ ∃kv∈F,xS kv.2 At):=by
  intro o Z n2 n3 n4 At a H;rcases H with rfl | rfl | H | ⟨kv,c,H⟩
  .rw[Ad]at a;exact n3 (qT a).symm
  .rw[As.gM]at a;exact n4 (qT a).symm
  .exact zRs As.dg a (fun t g=>n2 _ t g) H
  .obtain⟨nd,K⟩:=As.pq.node kv c;exact K.nblk a Z H
 intro At m hv;rcases(S At).1 hv with rfl | rfl | rfl | H
 .obtain⟨x,r,e⟩: ∃x r,y=x::r:=by
   cases y with
   | nil=>simp at C
   | cons x r=>exact⟨x,r,rfl⟩
  subst e;simp only[List.getElem?_cons_zero,zB]at z;subst z;exact key _ (.inl ⟨_,r,_,_,rfl,fun _ _ H=>by cases H⟩) (by simp) (by simp) (by simp) _ T m
 .exact key _ (.inl ⟨_,_,_,_,rfl,fun _ _ H=>by cases H⟩) (by simp) (by simp) (by simp) _ ws.gD m
 .exact key _ (.inr (.inl ⟨_,_,rfl⟩)) (by simp) (by simp) (by simp) _ ws.gN m
 .exact key _ (.inr (.inr ⟨_,_,513,_,rfl,by omega,by omega⟩)) (by simp) (by simp) (by simp) _ (ws.ow.get H) m
theorem zPy {la txg left u:Nat}(f:TI R h B N (.ptr Y 0) .nP E F V u p)(m:Dsk h Y j R.nb R.ws la J w)(o:Prs h L)(T:L.h.get A=some (.cells [.ptr B 0, .ptr j 0, .int .i64 txg, .int .i64 left, .nS, .nS] 198 1 false))(m1:h.next<=A)(hl:left<=1000000000):
  Wr R L A j B N Y .nP txg left la J E F V u p (fun Aw=>Aw=A\/w Aw) (fun Aw=>Aw=B\/Aw=N\/Blk p Aw\/ ∃kv∈F,xS kv.2 Aw):=by
 have Ad:=f.ok;have a0:=m.prs Ad o;have At:=zA7 f m;have a1:=m.lt Ad;obtain⟨y,M,Z,dm,a,z,C,b1,b2,b3,b4,b5,b6⟩:=m;have O:=a.prs Ad o;refine⟨f.prs o,z.stp Ad o fun x=>x,b6,⟨y,M,Z,dm, .nS, .nS,0,[],[],O,T,zRw ..,zRw ..,Nat.zero_le _,fun Aw=> ?_, ?_⟩,fun Aw As hx=> ?_,fun Aw=>Iff.rfl,b4,⟨b1,b2,b3⟩,b5,hl⟩
 .have hn:Blk .nS Aw↔False:=zRu;rw[C Aw,hn];constructor
  .rintro(H | H | H | H | H)
   .exact .inl H
   .exact .inr (.inl H)
   .exact .inr (.inr (.inl H))
   .exact .inr (.inr (.inr (.inl H)))
   .exact .inr (.inr (.inr (.inr (.inl H))))
  .rintro(H | H | H | H | H | H | H)
   .exact .inl H
   .exact .inr (.inl H)
   .exact .inr (.inr (.inl H))
   .exact .inr (.inr (.inr (.inl H)))
   .exact .inr (.inr (.inr (.inr H)))
   .exact H.elim
   .exact H.elim
 .have lO:=Ad.lt a.gO
  rintro(e | hv)
  .omega
  .rcases(C y).1 hv with e | e | e | e
   .obtain⟨c8,K,_⟩:=z;rw[<-e,a.gO]at K;cases K
   .have:=a.gD;rw[<-e,a.gO]at this;cases this
   .exact a.ne e
   .have:=a.ow.get e;rw[a.gO]at this;cases this
 .rcases hx with e | e
  .have hold:Aw<h.next:=by
    rcases As with rfl | rfl | H | ⟨kv,S,H⟩
    .exact Ad.lt f.gT
    .exact Ad.lt f.gM
    .exact f.dg.lt H
    .exact f.pq.old kv S Aw H
   omega
  .exact At Aw As e
theorem zDT (m n:Nat)(hm:400000000<=m)(hn:200000000<=n){E:Ev}{la txg:Nat}{root:Ptr}(t:fG (.ptr Y 0) .nP E h A B N w root V l e)(ds:Dsk h Y j E.nb E.ws la J q)(hu: ∀r∈e,r.at_≠1->J r.at_.toNat≠0)(h1:1<=txg)(h2:txg<=2147483647)(e0:l.length<=1000000000):
  ∃H',(cnt J 0 E.nb<V.length/\f43 (dy m) n [.ptr A 0, .ptr j 0, .int .i64 txg] h=some (.tuple [.agg [.int .i64 (0:Nat), .int .i64 (0:Nat), .int .u64 (0:Nat)], .nS, .int .i64 (3:Nat)],H')/\Prs h H')\/
   (V.length<=cnt J 0 E.nb/\ ∃b9 c6 la' V' c3 T' M' W' u,f43 (dy m) n [.ptr A 0, .ptr j 0, .int .i64 txg] h=some (.tuple [.agg (jS c3),u, .int .i64 (0:Nat)],H')/\fG (.ptr Y 0) .nP { E with ws:=b9,dl:=[] } H' A M' N W' c3 [] l T'/\Dsk H' Y j E.nb b9 la' c6 V'/\WOut E.nb E.ws b9 J c6 e T'/\AdT (fun M=>w M\/q M) h (fun M=>W' M\/V' M) H'/\Rw 3 H' u E.dl.length (E.dl.flatMap jS)/\ ∀M,Blk u M-> ¬W' M/\ ¬V' M/\w M):=by
 obtain⟨u,es,L,hc,O,j1,j2,e1,j3,hr,hW⟩:=t;have hk:=O.ok;obtain⟨H1,C,b1,Ad,g1,m1,n1⟩:=box hk (.cells [.int .i64 (0:Nat), .int .i64 (0:Nat), .int .u64 (0:Nat)] 42 1 false);have N1:=Ad.next
 have b7:=O.prs Ad;have c7:=YV (dy m) n b7;obtain⟨c8,gS,_⟩: ∃c,h.h.get j=some (.cells c 145 1 false)/\True:=by
  obtain⟨_,_,_,_,_,sp,_⟩:=id ds;obtain⟨c,g⟩:=sp.bk;exact⟨c,g,trivial⟩
 have e4:Spc H1 j E.nb la J:=by
  obtain⟨_,_,_,_,_,sp,_⟩:=id (ds.prs hk Ad);exact sp
 have c4:=zKl (dy m) n e4;have c9:Eng.ld1 (.ptr A 5) H1=some (.map B):=by rw[jM b7.gT];rfl
 have d0:QR (.map B) H1=some (.int .i64 V.length):=by
  simp only[QR,b7.gM,kF,b7.pq.len];rfl
 have t1: ¬(txg:Int)< ((1:Nat):Int):=by omega
 have t2: ¬((2147483647:Nat):Int)< (txg:Int):=by omega
 have ck: ∀K:Rs,chk (some (.map B)) (.map B) K=K:=fun K=>kW rfl (by simp[aveq])
 have z6:ldN 3 (.ptr C 0) H1=some (.agg [.int .i64 (0:Nat), .int .i64 (0:Nat), .int .u64 (0:Nat)]):=xB g1 rfl;have e8:vJ [(0,1),(1,1),(2,1)] [.int .i64 (0:Nat), .int .i64 (0:Nat), .int .u64 (0:Nat)] []=some (.agg [.int .i64 (0:Nat), .int .i64 (0:Nat), .int .u64 (0:Nat)]):=rfl;rcases Nat.lt_or_ge (cnt J 0 E.nb) V.length with f1 | f2
 .obtain⟨kv,e2,g2,s2,n2⟩:=jV Ad.ok g1 (l':=[.int .i64 (0:Nat), .int .i64 (0:Nat), .int .u64 (0:Nat)]) rfl rfl;have f3:stN 3 (.ptr C 0) (.agg [.int .i64 (0:Nat), .int .i64 (0:Nat), .int .u64 (0:Nat)]) H1=some (jQ,kv):=e2;have r2:ldN 3 (.ptr C 0) kv=some (.agg [.int .i64 (0:Nat), .int .i64 (0:Nat), .int .u64 (0:Nat)]):=xB g2 rfl;have tl:((cnt J 0 E.nb:Nat):Int)< (V.length:Int):=by omega
  refine⟨kv, .inl ⟨f1, ?_,Ad.fresh s2 fun M f=>by omega⟩⟩;simp(maxSteps:=999999)(disch:=omega) only[f43,eZ,b1,c7,cq,t1,t2,c9,c4,ck,d0,tl,e8,f3,r2]
 .have tl: ¬((cnt J 0 E.nb:Nat):Int)< (V.length:Int):=by omega
  obtain⟨kv,Aw,b2,p2,g2,m2,n2⟩:=box Ad.ok (.cells [.ptr A 0, .ptr j 0, .int .i64 txg, .int .i64 V.length, .nS, .nS] 198 1 false);have N2:=p2.next
  have P2:=Ad.trans p2;have w2:=zPy O ds P2 g2 (by omega) O.few;have f4:vJ [(0,1),(1,1),(2,1),(3,1),(4,1),(5,1)] [.nP, .nP, .int .i64 (0:Nat), .int .i64 (0:Nat), .nS, .nS] [(0, .ptr A 0),(1, .ptr j 0),(2, .int .i64 txg),(3, .int .i64 V.length)]=some (.agg [.ptr A 0, .ptr j 0, .int .i64 txg, .int .i64 V.length, .nS, .nS]):=rfl;have f5:=w2.ti.gT;have rT:ldN 3 (.ptr A 2) kv=some (.agg (jS root)):=J0 f5 (by simp[wN]);have j4:cp e<=V.length:=by
   rcases hr with⟨_,_,rfl⟩ | ⟨H,nd,tr,S,k1,k2,k3,k4,k5,rfl⟩
   .exact Nat.zero_le _
   .refine zOL (E:=E) k4 fun r hr=> ?_
    rcases zK.1 hr with rfl | hr
    .exact⟨nd,k1⟩
    .exact kU.here k2 r hr
  have node: ∃H3 Z z a7 a6 p T3 b5,f96 (dy m) n [.ptr Aw 0, .agg (jS root)] kv=some (.tuple [.agg (jS p), .int .i64 (0:Nat)],H3)/\Wr { E with ws:=Z} H3 Aw j A B Y .nP txg b5 a7 a6 root es V L u z (fun M=>M=A\/M=B\/Blk u M\/ ∃l∈es,xS l.2 M)/\AdT (fun M=>M=Aw\/q M) kv z H3/\WOut E.nb E.ws Z J a6 e T3/\vD { E with ws:=Z,dl:=[] } [] p l T3:=by
   rcases hr with⟨rfl,rfl,rfl⟩ | ⟨H,nd,tr,S,k1,k2,k3,k4,k5,rfl⟩
   .obtain⟨H3,A3,b3,p3,g3,m3,n3⟩:=box w2.ti.ok (.cells (jS pZ) 42 1 false);obtain⟨H4,A4,b4,p4,g4,m4,n4⟩:=box p3.ok (.cells [.int .i64 (0:Nat), .int .i64 (0:Nat), .int .u64 (0:Nat)] 42 1 false);obtain⟨As,e5,g5,s5,n5⟩:=jV p4.ok g4 (l':=jS pZ) rfl rfl;have c0:stN 3 (.ptr A4 0) (.agg (jS pZ)) H4=some (jQ,As):=e5;have N3:=p3.next
    have P5:Prs kv As:=(p3.trans p4).fresh s5 fun M f=>by omega
    have d1:=zRt p4 p3.ok g3;have r1:Eng.ld1 (.ptr A3 0) H4=some (.int .i64 (0:Nat)):=by rw[jM d1];rfl
    have r2:ldN 3 (.ptr A3 0) H4=some (.agg (jS pZ)):=xB d1 rfl;have r3:ldN 3 (.ptr A4 0) As=some (.agg (jS pZ)):=xB g5 rfl;have f6:(((0:Nat):Int)≠((1:Nat):Int))=True:=eq_true (by omega);refine⟨As,E.ws,_,la,J,pZ,[],V.length, ?_,w2.prs P5,AdT.prs P5,WOut.nil _ _ _ (by simp), .inl ⟨rfl,rfl,rfl⟩⟩;simp(maxSteps:=999999)(disch:=omega) only[f96,eZ,b3,b4,r1,f6,r2,c0,r3]
   .have i8:=k3.low (by rw[k5];exact e0);obtain⟨H3,Z,z,a7,a6,p',f7,S',b5,e3,w3,a3,o3,l3,K3,R3⟩:=zK0 H m n (by omega) hn w2 k1 k2 (.inr k3) hu (by omega) (by omega) h2;refine⟨H3,Z,z,a7,a6,p',p'::S',b5,e3,w3,a3,o3, .inr ⟨H,f7,tr,S', ?_, ?_,k3, ?_,k5,rfl⟩⟩
    .have hd:=(o3.used hu p' (zJ ..)).1;rw[JD fun s W=>hd (by rw[W];rfl)];exact zRn.2 (zRn.1 K3)
    .refine R3.mono fun r f8 j5 f9=> ?_
     have hd:=(o3.used hu r (zC _ f8)).1;rw[JD fun s W=>hd (by rw[W];rfl)];exact zRn.2 (zRn.1 f9)
    .obtain⟨i9,pm,g0,_,hn⟩:=o3.pm;rw[pm.nodup_iff];refine List.nodup_append.2 ⟨k4.filter _,g0,fun a ha b hb W=> ?_⟩;subst W;obtain⟨a1,a2⟩:=hJ.1 ha;exact hu a a1 a2 (hn a hb).2.1
  obtain⟨H3,Z,z,a7,a6,p,T3,b5,e3,w3,a3,o3,h0⟩:=node;have N3:=a3.1.next
  obtain⟨H4,c1,b4,p4,g4,m4,n4⟩:=box w3.ti.ok (.cells [.int .i64 (0:Nat), .int .i64 (0:Nat), .int .u64 (0:Nat)] 42 1 false);obtain⟨As,e5,g5,s5,n5⟩:=jV p4.ok g4 (l':=jS p) rfl rfl;have c0:stN 3 (.ptr c1 0) (.agg (jS p)) H4=some (jQ,As):=e5;have N4:=p4.next
  have P5:Prs H3 As:=p4.fresh s5 fun M f=>by omega
  have y:=w3.prs P5;have h4:ldN 3 (.ptr c1 0) As=some (.agg (jS p)):=xB g5 rfl;have a4:=y.ti.gT;have x1:Eng.ld1 (.ptr A 1) As=some .nP:=by rw[jM a4];rfl
  have x7:Eng.ld1 (.ptr A 7) As=some u:=by rw[jM a4];rfl
  have lT:=hk.lt O.gT;have e6:=WJ (o:=2) (n:=3) (x:= .agg (jS p)) a4 (by decide) rfl rfl (by simp[wN]);have g6:(As.put A (.cells (wN (.ptr Y 0) .nP p B L u) 140 1 false)).h.get A=some (.cells (wN (.ptr Y 0) .nP p B L u) 140 1 false):=by rw[zRk,if_pos rfl]
  have d2:stN 3 (.ptr A 2) (.agg (jS p)) As=some (jQ,As.put A (.cells (wN (.ptr Y 0) .nP p B L u) 140 1 false)):=e6;have a8:Stp (fun M=>M=A) As (As.put A (.cells (wN (.ptr Y 0) .nP p B L u) 140 1 false)):=(zRo y.ti.ok).put (y.ti.ok.lt a4) _ (.inr rfl);generalize As.put A (.cells (wN (.ptr Y 0) .nP p B L u) 140 1 false)=H6 at d2 g6 a8;obtain⟨H7,e7,g7,s7,n7⟩:=xM a8.ok g6 (o:=7) (x:= .nS) rfl (by simp[wN]);have h5:H7.h.get A=some (.cells (wN (.ptr Y 0) .nP p B L .nS) 140 1 false):=g7;obtain⟨H8,M',b8,p8,g8,m8,n8⟩:=box s7.ok (.map [10] []);have h6:=zRt p8 s7.ok h5;obtain⟨H9,e9,g9,s9,n9⟩:=xM p8.ok h6 (o:=5) (x:= .map M') rfl (by simp[wN]);have h7:H9.h.get A=some (.cells (wN (.ptr Y 0) .nP p M' L .nS) 140 1 false):=g9;have N6:=a8.next;have N7:=s7.next;have N8:=p8.next;have N9:=s9.next
  have j6:=w2.lt;have kb: ∀ {At:Nat} {o:AObj},H1.h.get At=some o->h.next<=At->At<kv.next->At≠Aw->As.h.get At=some o:=fun {At o} g ha hb a9=>by
   have d3:=zRt p2 Ad.ok g;have nz: ¬(At=Aw\/q At):=fun x=>by
    rcases x with x | x
    .exact a9 x
    .have:=ds.lt hk At x;omega
   rw[P5.keep At (by omega) (fun x=>x),(a3.keep (w2.ti.ok.lt d3) nz).1];exact d3
  have b0:=kb g1 (by omega) (by omega) (by omega);have c2: ∀ {At:Nat} {o:AObj},As.h.get At=some o->At≠A->At<As.next->H9.h.get At=some o:=fun {At o} g a9 hl=>by
   rw[s9.keep At (by omega) a9,p8.keep At (by omega) (fun x=>x),s7.keep At (by omega) a9,a8.keep At hl a9];exact g
  have h8:=c2 b0 (by omega) (y.ti.ok.lt b0);have d6:=c2 g5 (by omega) (by omega);have d7:ldN 3 (.ptr c1 0) H9=some (.agg (jS p)):=xB d6 rfl;obtain⟨a5,h9,i0,a0,j7⟩:=jV s9.ok h8 (l':=jS p) rfl rfl;have d8:stN 3 (.ptr C 0) (.agg (jS p)) H9=some (jQ,a5):=h9;have r6:ldN 3 (.ptr C 0) a5=some (.agg (jS p)):=xB i0 rfl;have j8:=a0.next
  have i1: ¬(((0:Nat):Int)≠((0:Nat):Int)):=by omega
  have i2:mkM [10]=some (.map [10] [],fun At=> .map At):=rfl;obtain⟨On,Nw,wv,dm,tv,ov,nt,j9,ol,dk,gw,ot,oo,k0,hZ,hO⟩:=y.gw;have tP: ∀M,(M=A\/M=B\/Blk u M\/ ∃l∈es,xS l.2 M)-> ¬z M:=w3.pr;have i3: ∀M,z M-> ¬M=A:=fun M f W=>tP A (.inl rfl) (W▸f)
  have l6:C<kv.next:=by omega
  have i4: ¬z C:=(a3.keep (w2.ti.ok.lt (zRt p2 Ad.ok g1)) (fun x=>by rcases x with x | x;omega;have:=ds.lt hk C x;omega)).2.1;have k6: ∀M,z M->M<As.next:=y.lt
  have i5:On≠C:=fun W=>by rw[<-W]at b0;rw[dk.gO]at b0;cases b0
  have i6:On≠A:=fun W=>by rw[<-W]at a4;rw[dk.gO]at a4;cases a4
  have lO:=y.ti.ok.lt dk.gO;have j0: ∀ {At:Nat} {o:AObj},As.h.get At=some o->At≠A->At≠C->a5.h.get At=some o:=fun {At o} g h1 h2=>by
   have:=y.ti.ok.lt g;rw[a0.keep At (by omega) h2];exact c2 g h1 this
  have zI: ∀ {M},z M->M≠A/\M≠C:=fun {M} f=>⟨i3 M f,fun W=>i4 (W▸f)⟩
  have b6:Stp (fun M=>M=A\/M=C) As a5:=⟨a0.ok,by omega,fun At hA hS=>by
   have h1:At≠A:=fun W=>hS (.inl W)
   have h2:At≠C:=fun W=>hS (.inr W)
   rw[a0.keep At (by omega) h2,s9.keep At (by omega) h1,p8.keep At (by omega) (fun x=>x),s7.keep At (by omega) h1,a8.keep At hA h1]⟩
  have nI: ∀ {M},z M-> ¬(M=A\/M=C):=fun {M} f x=>by rcases x with x | x;exact(zI f).1 x;exact(zI f).2 x
  have zS:z j:=(hZ _).2 (.inr (.inl rfl));have zD:z Y:=(hZ _).2 (.inr (.inr (.inl rfl)));have zN:z Nw:=(hZ _).2 (.inr (.inr (.inr (.inl rfl))));have zw: ∀M,Blk wv M->z M:=fun M f=>(hZ _).2 (.inr (.inr (.inr (.inr (.inl f)))))
  have c5:DkI a5 Y E.nb Z On Nw wv dm:=dk.stp y.ti.ok b6 (nI zD) (fun x=>by rcases x with x | x;exact i6 x;exact i5 x) (nI zN) fun M f=>nI (zw M f)
  have i7: ∀M,Blk u M->M=A\/M=B\/Blk u M\/ ∃l∈es,xS l.2 M:=fun M f=> .inr (.inr (.inl f))
  have d4: ∀M,Blk u M->M≠A:=fun M f W=>by
   subst W;exact zRs O.dg O.gT (fun e' g=>by simp) f
  have d5: ∀M,Blk u M->M<h.next:=fun M f=>O.dg.lt f
  have d9:Rw 3 a5 u E.dl.length (E.dl.flatMap jS):=by
   refine Rw.stp (y.ti.dg.row) b6 fun M f x=> ?_
   rcases x with x | x
   .exact d4 M f x
   .have:=d5 M f;omega
  refine⟨a5, .inr ⟨f2,Z,a6,a7,fun M=>M=j\/M=Y\/M=Nw\/Blk wv M,p,T3,M',fun M=>M=A\/M=M'\/Blk .nS M,u, ?_,⟨.nS,[],L,rfl,⟨a0.ok, ?_, ?_,trivial,⟨_,_,_,_,_,rfl,c5⟩, .inl rfl, .inl (zRw ..),by simp,by simp,fun M f=>by have:=O.xl M f;omega⟩,by simp[jX],by simp,e1,by simp,h0,fun M=>Iff.rfl⟩,⟨On,Nw,wv,dm,c5,y.sp.stp y.ti.ok b6 (nI zS),fun M=>Iff.rfl,y.nb.1,y.nb.2.1,y.nb.2.2,y.bd,y.s0,y.few⟩,o3,⟨⟨a0.ok,by omega,fun M f hS=> ?_⟩,fun M f=> ?_⟩,d9,fun M f=>⟨?_, ?_,(hW M).2 (.inr (.inr f))⟩⟩⟩
  .simp(maxSteps:=999999)(disch:=omega) only[f43,eZ,b1,c7,cq,t1,t2,c9,c4,ck,d0,tl,f4,b2,rT,e3,jN,nth,b4,c0,i1,x1,zQG,x7,h4,d2,e7,i2,b8,e9,d7,d8,r6]
  .rw[a0.keep _ (by omega) (by omega)];exact h7
  .rw[a0.keep _ (by omega) (by omega),s9.keep _ (by omega) (by omega)];exact g8
  .have h1:M≠A:=fun W=>hS (.inl ((hW M).2 (.inl W)))
   have hv: ¬q M:=fun x=>hS (.inr x)
   rw[b6.keep M (by omega) (fun x=>by rcases x with x | x;exact h1 x;omega),P5.keep M (by omega) (fun x=>x),(a3.keep (A:=M) (by omega) (fun x=>by rcases x with x | x;omega;exact hv x)).1,P2.keep M f (fun x=>x)]
  .have old: ∀M,z M->q M\/h.next<=M:=fun M f=>by
    rcases a3.2 M f with(x | x) | x
    .exact .inr (by omega)
    .exact .inl x
    .exact .inr (by omega)
   rcases f with(W | W | W) | (W | W | W | W)
   .exact .inl (.inl ((hW M).2 (.inl W)))
   .exact .inr (by omega)
   .exact(zRu.1 W).elim
   .rcases old M (W▸zS)with x | x
    .exact .inl (.inr x)
    .exact .inr x
   .rcases old M (W▸zD)with x | x
    .exact .inl (.inr x)
    .exact .inr x
   .rcases old M (W▸zN)with x | x
    .exact .inl (.inr x)
    .exact .inr x
   .rcases old M (zw M W)with x | x
    .exact .inl (.inr x)
    .exact .inr x
  .have:=d5 M f
   rintro(W | W | W)
   .exact d4 M f W
   .omega
   .exact zRu.1 W
  .have h3:=tP M (i7 M f)
   rintro(W | W | W | W)
   .exact h3 (W▸zS)
   .exact h3 (W▸zD)
   .exact h3 (W▸zN)
   .exact h3 (zw M W)
end Go.Eng.Sh
namespace Go.Eng
open Go.Nd (Kvs Srt)
end Go.Eng
namespace Go.Eng.Sh
open Go.Nd (Kvs Srt putP delP lookP)
open Go.Bt
def prV (p:Str×Str):List AV:=[S p.1,S p.2]
def VQ (H:AH)(v:AV)(l:Kvs):Prop:=Rw 2 H v l.length (l.flatMap prV)
theorem QW: ∀l:Kvs,(l.flatMap prV).length=l.length*2
 | []=>rfl
 | p::l=>by
  rw[qJ,zV,QW l,zT];show 2+l.length*2=_;omega
theorem zEN: ∀(l:Kvs) (i:Nat) (h:i<l.length),((l.flatMap prV).drop (i*2)).take 2=prV l[i]
 | p::l,0,_=>rfl
 | p::l,i+1,h=>by
  rw[qJ,show(i+1)*2=2+i*2 by omega,<-List.drop_drop];exact zEN l i (by simpa using h)
theorem VQ.at {H:AH}{v:AV}{l:Kvs}(h:VQ H v l){i:Nat}(hi:i<l.length): ∃A o,(∀κ (z:Int),z=(i:Int)->dV 2 v (.int κ z)=some (.ptr A o))/\Eng.ldN 2 (.ptr A o) H=some (.agg (prV l[i]))/\Eng.ld1 (.ptr A o) H=some (S l[i].1)/\Eng.ld1 (.ptr A (o+1)) H=some (S l[i].2):=by
 obtain⟨A,o,c,e,sz,g,j,f,t,m,a⟩:=Rw.at h hi;rw[zEN l i hi]at a;have p:c[o]? =some (S l[i].1):=by
  have:=congrArg (fun x=>x[0]?) a;simpa[prV]using this
 have q:c[o+1]? =some (S l[i].2):=by
  have:=congrArg (fun x=>x[1]?) a;simpa[prV]using this
 exact⟨A,o,j,by rw[J0 f m,a],wY f p,wY f q⟩
def behind (kv:Kvs):Nat->Str
 | 0=>[]
 | i+1=>(kv.getD i ([],[])).1++[0]
theorem look_not {k:Str}(h:lookP k l=none): ∀p∈l,p.1≠k:=by
 induction l with
 | nil=>simp
 | cons q l ih=>
  obtain⟨a,b⟩:=q;simp only[lookP]at h;split at h
  .cases h
  .rename_i e;intro p hp;rcases zK.1 hp with rfl | hp
   .exact e
   .exact ih h p hp
theorem srt_ext: ∀ {l m:Kvs},Srt l->Srt m->(∀k,lookP k l=lookP k m)->l=m
 | [],[],_,_,_=>rfl
 | [],(a,b)::m,_,_,h=>by have:=h a;simp[lookP]at this
 | (a,b)::l,[],_,_,h=>by have:=h a;simp[lookP]at this
 | (a,b)::l,(c,d)::m,hl,hm,h=>by
  have key: ∀ {a c:Str} {b d:Str} {l m:Kvs},Srt ((a,b)::l)->Srt ((c,d)::m)->(∀k,lookP k ((a,b)::l)=lookP k ((c,d)::m))->ltS a c=true->False:=fun {a c b d l m} hl hm h o=>by
   have f:=h a;have q:c≠a:=fun e=>(uH o) e.symm
   simp only[lookP,if_true,if_neg q]at f;have:lookP a m=none:=Nd.look_none fun p hp e=>by
    have:=kN o (hm.1 p hp);rw[e,kB]at this;cases this
   rw[this]at f;cases f
  have e:a=c:=xK (by
   cases j:ltS a c with
   | false=>rfl
   | true=>exact(key hl hm h j).elim) (by
   cases j:ltS c a with
   | false=>rfl
   | true=>exact(key hm hl (fun k=>(h k).symm) j).elim)
  subst e;have hb:=h a;simp only[lookP,if_true,zB]at hb;subst hb;rw[srt_ext hl.2 hm.2 fun k=>by
   have:=h k;simp only[lookP]at this;by_cases e:a=k
   .subst e;have t:lookP a l=none:=Nd.look_none fun p hp e=>by
     have:=hl.1 p hp;rw[e,kB]at this;cases this
    have u:lookP a m=none:=Nd.look_none fun p hp e=>by
     have:=hm.1 p hp;rw[e,kB]at this;cases this
    rw[t,u]
   .rwa[if_neg e,if_neg e]at this]
end Go.Eng.Sh
namespace Go.Eng
theorem kZ.stk (e:kZ A B h p N P): ∃f,Stk A f h p N P:=by
 rcases e with⟨a,⟨rfl,rfl⟩ | ⟨k,rfl,j,m⟩⟩ | ⟨a,k,f,g,rfl,j,m,o⟩
 .exact⟨B,a, .inl ⟨rfl,rfl⟩⟩
 .exact⟨B,a, .inr ⟨k,1,P,true,N,rfl,j,m,a,zM _,zY (by omega), .inr ⟨rfl,rfl⟩⟩⟩
 .exact⟨f,a, .inr ⟨k,2*N,P,g,N,rfl,j,m,a,zM _,zY (by omega), .inl rfl⟩⟩
theorem kZ.hi {k e n i:Nat}{H:AH}{v:AV}{l:List AV}(h:kZ k e H v n l)(a:0<k)(hi:i<=n): ∃r,vN k v none (some (.int .i64 (i:Nat))) none H=some r/\Rw k H r i (l.take (i*k)):=by
 obtain⟨o,f⟩:=h.stk;obtain⟨r,j,m,_⟩:=f.cut a hi .i64;exact⟨r,j,m.row⟩
end Go.Eng
namespace Go.Eng.Sh
open Go.Nd (Kvs Srt putP delP lookP)
open Go.Bt
theorem UU: ∀(l:Kvs) (i:Nat),(l.flatMap prV).take (i*2)=(l.take i).flatMap prV
 | [],i=>by simp
 | p::l,0=>by simp
 | p::l,i+1=>by
  rw[qJ,List.take_succ_cons,qJ,<-UU l i,show(i+1)*2=2+i*2 by omega,List.take_append,show(prV p).length=2 from rfl,zY (show(prV p).length<=2+i*2 by show 2<=_;omega),show 2+i*2 - 2=i*2 by omega]
theorem UW: ∀(l:Kvs) (i:Nat),(l.flatMap prV).drop (i*2)=(l.drop i).flatMap prV
 | [],i=>by simp
 | p::l,0=>by simp
 | p::l,i+1=>by
  rw[qJ,List.drop_succ_cons,<-UW l i,show(i+1)*2=2+i*2 by omega,<-List.drop_drop];rfl
theorem XM (l:Kvs):jP (l.flatMap prV)=true:=by
 rw[wJ];intro x a;obtain⟨p,_,a⟩:=List.mem_flatMap.1 a;simp only[prV,zK,List.not_mem_nil,or_false]at a;rcases a with rfl | rfl<;>rfl
def PrG (H:AH)(v:AV)(l:Kvs):Prop:=kZ 2 48 H v l.length (l.flatMap prV)/\(l=[]->v= .nS)
def PrG.prs (H:PrG h p l)(s:Prs h L):PrG L p l:=⟨H.1.mono s (fun _ _ x=>x),H.2⟩
theorem PrG.row {H:AH}{v:AV}{l:Kvs}(h:PrG H v l):VQ H v l:=h.1.row
theorem lo2 (H:PrG h p l)(hi:A<=l.length): ∃r,vN 2 p (some (.int .i64 (A:Nat))) none none h=some r/\VQ h r (l.drop A):=by
 by_cases f:A<l.length
 .obtain⟨r,a,w,_⟩:=YN H.1 (by decide) f .i64;rw[UW]at w;exact⟨r,a,by rw[VQ,qL];exact w⟩
 .obtain rfl:A=l.length:=by omega
  by_cases j:0<l.length
  .obtain⟨r,a,w⟩:=K7 H.1 (by decide) j .i64;exact⟨r,a,by rw[List.drop_length];exact w⟩
  .have hl:l=[]:=zW (by omega);have m:=H.2 hl;subst hl;subst m;exact⟨.nS,rfl,Rw.nil _ _⟩
theorem zQn (hk:h.ok)(H:PrG h p l)(hj:A<=l.length)(hl:l.length<=100000000)(a x:Str):
  ∃o A1 r1 f y t A2 z C v O J,(∀(N:Nat->AV) (K:AV->AH->Rs),bA (some (.cells [] 48 2 false,N)) h K=K (N A1) o)/\vN 2 p none (some (.int .i64 (A:Nat))) none o=some r1/\vN 2 p (some (.int .i64 (A:Nat))) none none o=some f/\
   apP 48 2 32 (.slice A1 0 0 0) r1 o=some (y,t)/\vN 2 p (some (.int .i64 (A:Nat))) none none t=some f/\aveq f f=true/\(∀(N:Nat->AV) (K:AV->AH->Rs),bA (some (.cells [S a,S x] 48 2 false,N)) t K=K (N A2) z)/\
   apP 48 2 32 y (.slice A2 0 1 2) z=some (C,v)/\vN 2 p (some (.int .i64 (A:Nat))) none none v=some f/\apP 48 2 32 C f v=some (O,J)/\Prs h o/\Prs h t/\Prs h J/\PrG J O (l.take A++(a,x)::l.drop A):=by
 obtain⟨o,A1,b1,u,g1,m1,n1⟩:=box hk (.cells [] 48 2 false);have Z:=H.prs u;obtain⟨r1,c1,q1⟩:=Z.1.hi (by decide) hj;obtain⟨f,c2,q2⟩:=lo2 Z hj;rw[UU]at q1;have G1:kZ 2 48 o (.slice A1 0 0 0) 0 []:= .inr ⟨rfl,A1,48,false,rfl,n1,g1,rfl⟩;obtain⟨y,t,e2,G2,s2,f2⟩:=G1.app (bytes:=32) u.ok (by decide) q1.srcOf q1.len (XM _) (by omega) (by decide);have N1:=u.next;have N2:=s2.next
 have P2:Prs h t:=u.fresh s2 (fun B q=>by rw[zRl.1 q];exact m1);have h2:=H.prs P2;obtain⟨z,A2,b3,T,g3,m3,n3⟩:=box s2.ok (.cells [S a,S x] 48 2 false);have a3:srcOf 2 (.slice A2 0 1 2) z=some (1,[S a,S x]):=by simp only[srcOf,g3];rfl
 obtain⟨C,v,e4,G4,Y,f4⟩:=(G2.mono T (fun _ _ x=>x)).app (bytes:=32) (m:=1) (new:=[S a,S x]) T.ok (by decide) a3 rfl rfl (by omega) (by decide);have N3:=T.next;have N4:=Y.next
 have a1: ∀B,Blk y B->h.next<=B:=fun B q=>by
  rcases f2 B q with e | e
  .rw[zRl.1 e];exact m1
  .omega
 have P4:Prs h v:=(P2.trans T).fresh Y a1;have h4:=H.prs P4;have a2:VQ v f (l.drop A):=by
  have a5:Stp (fun B=>h.next<=B) o v:=⟨Y.ok,by omega,fun B q hS=>by
   rw[P4.keep B (by omega) (fun x=>x),u.keep B (by omega) (fun x=>x)]⟩
  exact Rw.stp q2 a5 (fun B q a8=>by
   have:=H.1.lt (zAg c2 B q);omega)
 obtain⟨O,J,e5,G5,s5,f5⟩:=G4.app (bytes:=32) Y.ok (by decide) a2.srcOf a2.len (XM _) (by simp;omega) (by decide);have a6: ∀B,Blk C B->h.next<=B:=fun B q=>by
  rcases f4 B q with e | e
  .exact a1 B e
  .omega
 have a0: ∀ {H':AH},PrG H' p l->vN 2 p (some (.int .i64 (A:Nat))) none none H'=some f:=fun {H'} h'=>by
  rw[bK Z.1 h'.1 (by decide)];exact c2
 refine⟨o,A1,r1,f,y,t,A2,z,C,v,O,J,b1,c1,c2,e2,a0 h2,kK q2,b3,e4,a0 h4,e5,u,P2,P4.fresh s5 a6, ?_,fun e=>by simp at e⟩;have a4:0+A+1+(l.drop A).length=(l.take A++(a,x)::l.drop A).length:=by
  simp only[zV,qC,zT,qL];omega
 rw[a4]at G5;have a7:[]++(l.take A).flatMap prV++[S a,S x]++(l.drop A).flatMap prV=(l.take A++(a,x)::l.drop A).flatMap prV:=by
  simp[prV]
 rw[a7]at G5;exact G5
theorem here_split {k:Str}(f:Srt l):(lookP k l=none-> ∀h:Nd.whereN (leafOf l) k<l.length,l[Nd.whereN (leafOf l) k].1≠k)/\(∀v,lookP k l=some v-> ∃h:Nd.whereN (leafOf l) k<l.length,l[Nd.whereN (leafOf l) k].1=k):=by
 have h:=Nd.here_look k f;have o:(leafOf l).keys.length=l.length:=jE ..;constructor
 .intro j a e;exact look_not j _ (yM a) e
 .intro v m;rw[m]at h;simp only[Nd.hereN,jJ,zE,zR]at h;have a:Nd.whereN (leafOf l) k<l.length:=by omega
  refine⟨a, ?_⟩;have:=h.2;rw[qK,zQ h.1,y9]at this;have e:(leafOf l).keys[Nd.whereN (leafOf l) k]'h.1=(l[Nd.whereN (leafOf l) k]'a).1:=List.getElem_map ..;exact e.symm.trans this
theorem zGY (a:Srt l)(h:A<l.length){k:Str}(f:l[A].1=k):l=l.take A++[l[A]]++l.drop (A+1)/\(∀p∈l.take A,ltS p.1 k=true)/\ ∀p∈l.drop (A+1),ltS k p.1=true:=by
 have e:l=l.take A++[l[A]]++l.drop (A+1):=zE8 (zQ h);rw[e]at a;obtain⟨j,q,m⟩:=ZJ.1 a;obtain⟨t,u,o⟩:=ZJ.1 j;refine⟨e,fun p hp=> ?_,fun p hp=> ?_⟩
 .have:=o p hp l[A] (by simp);rw[f]at this;exact this
 .have:=m l[A] (yQ _ (qS.2 rfl)) p hp;rw[f]at this;exact this
theorem del_at (f:Srt l)(h:A<l.length){k:Str}(a:l[A].1=k):delP k l=l.take A++l.drop (A+1):=by
 obtain⟨e,j,m⟩:=zGY f h a
 conv=>lhs;rw[e]
 rw[zJ5 j m];have:delP k [l[A]]=[]:=by
  have o:l[A]=(k,l[A].2):=by rw[<-a]
  rw[o];simp[delP]
 rw[this];simp
def GrP (H:AH)(v:AV)(l:Kvs):Prop:=kZ 2 48 H v l.length (l.flatMap prV)
def GrP.prs (H:GrP h p l)(s:Prs h L):GrP L p l:=H.mono s (fun _ _ x=>x)
theorem GrP.row {H:AH}{v:AV}{l:Kvs}(h:GrP H v l):VQ H v l:=kZ.row h
theorem GrP.hi {H:AH}{v:AV}{l:Kvs}(h:GrP H v l){i:Nat}(hi:i<=l.length): ∃r,vN 2 v none (some (.int .i64 (i:Nat))) none H=some r/\Rw 2 H r i ((l.flatMap prV).take (i*2)):=kZ.hi h (by decide) hi
end Go.Eng.Sh
namespace Go.Eng
theorem zCB {w:World}{a:Addr}{cs:List Value}(h:w.cells? A a B=some cs)(z:0<B):a.spot=none/\ ∃arr e p,w.heap[a.block]? =some (.cells arr e p)/\ ∀j,j<B->arr[a.off+j]? =cs[j]? :=by
 obtain⟨_,hl,x⟩:=World.cells?_some h;have y:=x 0 z;rw[zQ (by omega)]at y;obtain⟨c1,arr,C,p,q,_⟩:=zCC y;have t:a.spot=none:=by simpa[Addr.add]using c1
 obtain⟨b,o,O⟩:=a;simp only at t;subst t;have hb:(Addr.add ⟨b,o,none⟩ 0).block=b:=by simp[Addr.add]
 rw[hb]at q;refine⟨rfl,arr,C,p,q,fun j J=> ?_⟩;have u:=x j J;rw[zQ (by omega)]at u⊢;obtain⟨_,arr',K,N,f,m⟩:=zCC u;rw[xF]at f m;simp only at f m;rw[q]at f;simp only[zB,Obj.cells.injEq]at f;rw[<-f.1]at m;exact m
theorem zDu {α β:Type}{k:Nat}{g:α->List β}(a: ∀s,(g s).length=k): ∀l:List α,(l.flatMap g).length=l.length*k
 | []=>by simp
 | s::l=>by rw[qJ,zV,zDu a l,a,zT,jI,Nat.add_comm]
theorem zIp {α β:Type}{k:Nat}{g:α->List β}(a: ∀s,(g s).length=k): ∀(l:List α) (i j:Nat) (hi:i<l.length),j<k->(l.flatMap g)[i*k+j]? =(g l[i])[j]?
 | s::l,0,j,_,hj=>by
  rw[qJ,Nat.zero_mul,yZ,yY (by rw[a];exact hj)];rfl
 | s::l,i+1,j,h,hj=>by
  have f:=zIp a l i j (by simpa using h) hj;rw[qJ,jB (by rw[a,jI];omega)];have:(i+1)*k+j - (g s).length=i*k+j:=by rw[a,jI];omega
  rw[this,f];rfl
theorem srows_arg {α:Type}[Inhabited α]{enc:TypeId×Value->g}{P:Program}{w:World}{S:Bool}{v:Value}{x:DataW g×List MemPlace}{t e:TypeId}{k:Nat}(J:0<k){vals:α->List Value}(T: ∀s,(vals s).length=k){good:α->Prop}(ht:P.underlying t=some (.slice e))(hc:P.cellsOf e=k)
  (hd: ∀ {B:Nat} {cs:List Value} {x:DataW g×List MemPlace},DataW.trod enc P w A (fun _=>true) S B e cs=some x-> ∃s,cs=vals s/\good s)
  (h:DataW.trod enc P w A (fun _=>true) S B t [v]=some x):
  ∃l:List α,Rw k (H0 w) (aD w.heap.size v) l.length (l.flatMap fun s=>(vals s).map (cellAV w.heap.size))/\ ∀s∈l,good s:=by
 have C: ∀s,((vals s).map (cellAV w.heap.size)).length=k:=fun s=>by rw[jE,T]
 rcases Deep.open_slice ht h with⟨y,_⟩ | ⟨a,len,cap,m,n,D,Pl,y,_,hl,_,hm,_,hx⟩
 .simp only[y8,and_true]at y;subst y;exact⟨[],⟨by simp, .inl ⟨rfl,rfl⟩⟩,by simp⟩
 .simp only[y8,and_true]at y;subst y;simp only[if_true]at hm;subst hm;by_cases h0:m=0
  .subst h0;obtain rfl:len=0:=by omega
   exact⟨[],⟨by simp, .inr (.inl ⟨rfl,rfl⟩)⟩,by simp⟩
  .simp only[hc]at hx;have hp: ∀i,i<m-> ∃p:α,w.cells? A (a.add (i*k)) k=some (vals p)/\good p:=fun i hi=>by
    obtain⟨cs,k1,k2⟩:=hx i hi;obtain⟨p,rfl,hs⟩:=hd k2;exact⟨p,k1,hs⟩
   obtain⟨K,N⟩:=Deep.choose_lt hp;obtain⟨b,o,sp⟩:=a;obtain⟨c1,arr,te,fz,f,a2⟩:=zCB (N 0 (by omega)).1 J;have a0:sp=none:=by simpa[Addr.add]using c1
   subst a0;rw[xF]at f;simp only at f;have Y: ∀i,i<m-> ∀j,j<k->arr[o+i*k+j]? =(vals (K i))[j]? :=fun i hi j hj=>by
    obtain⟨_,arr',a3,a4,u,O⟩:=zCB (N i hi).1 J;rw[xF]at u O;simp only at u O;rw[f]at u;simp only[zB,Obj.cells.injEq]at u;rw[u.1];exact O j hj
   have a5:(m - 1)*k+k=m*k:=by rw[<-jI,Nat.succ_eq_add_one,Nat.sub_add_cancel (by omega)]
   have a6:o+m*k<=arr.size:=by
    have h2:=Y (m - 1) (by omega) (k - 1) (by omega);rw[zQ (by rw[T];omega)]at h2;have:=(Array.getElem?_eq_some_iff.1 h2).1;omega
   have a7:len*k<=m*k:=yN _ (by omega);rw[zLI w (by omega) (zIg f)];refine⟨(List.range len).map K,⟨zDu C _, .inr (.inr ⟨b,o,2*m,_,te,0,false,by simp,zLZ w f,zIg f,by simp;omega, ?_⟩)⟩, ?_⟩
   .apply List.ext_getElem?;intro q;simp only[jE,List.length_range];by_cases hq:q<len*k
    .have a1:q / k<len:=Nat.div_lt_of_lt_mul (by rw[Nat.mul_comm];exact hq);have Z:q % k<k:=Nat.mod_lt _ J;have e1:q / k*k+q % k=q:=by rw[Nat.mul_comm];exact Nat.div_add_mod q k
     rw[jF hq,jG,jK,yS];have h3:=Y (q / k) (by omega) (q % k) Z;rw[Nat.add_assoc,e1]at h3;have h4:=zIp C ((List.range len).map K) (q / k) (q % k) (by simpa using a1) Z;rw[e1]at h4;rw[h3,h4,jK];simp only[List.getElem_map,List.getElem_range]
    .rw[List.getElem?_eq_none (by simp;omega),List.getElem?_eq_none (by rw[zDu C];simp;omega)]
   .intro p hp;obtain⟨i,hi,rfl⟩:=qZ.1 hp;exact(N i (by have:=List.mem_range.1 hi;omega)).2
end Go.Eng
namespace Go.Eng.Sh
open Go.Nd (Kvs Srt putP delP lookP)
open Go.Bt Go.Bk
def rootOk (p:Ptr):Prop:=Nd.mayP p=true/\Nd.sumOk p/\p.at_≠1
def zDb:rootOk pZ:=⟨rfl,by simp[Nd.sumOk,pZ],by simp[pZ]⟩
theorem zKo (h:R.K E=some C):rootOk E:=by
 have f:=bU h;obtain⟨a,birth,kind,body,rfl,_⟩:=zRn.1 h;exact⟨Nd.kidOk_may f.1,⟨by simp[fJ],by have:=zNo (sealB kind birth body);simp only[fJ];omega⟩,by omega⟩
theorem vD.rootOk {E:Ev}{p:Ptr}{kv:Kvs}{T:List Ptr}(h:vD E [] p kv T):Sh.rootOk p:=by
 rcases h with⟨rfl,_⟩ | ⟨h,nd,t,S,f,_⟩
 .exact zDb
 .obtain⟨s,rfl,a | ⟨_,a⟩⟩ | ⟨_,j⟩:=uK f
  .simp[jX]at a
  .simp[jX]at a
  .exact zKo j
theorem zAq(hn:100<=n){E:Ev}(K:h.ok){Ad:Nat}{p:Ptr}{kv:Kvs}{T:List Ptr}(hd: ∃m o q t,DkI h Ad E.nb E.ws m o q t)(hr:vD { E with dl:=[] } [] p kv T)(hx: ∀B,E.x B->B<h.next:=by intro _ H;exact False.elim H):
  ∃H' At M W,f18 D n [.ptr Ad 0, .nP, .agg (jS p)] h=some (.tuple [.ptr At 0, .int .i64 (0:Nat)],H')/\Prs h H'/\fG (.ptr Ad 0) .nP { E with dl:=[] } H' At M 0 W p [] kv T/\(∀B,W B->h.next<=B):=by
 obtain⟨O,S,a1⟩:=hr.rootOk;obtain⟨H1,u,b1,a,y,m1,n1⟩:=box K (.cells (jS p) 42 1 false);obtain⟨N,e2,f⟩:=zCp D n a.ok O S hn;obtain⟨H3,M,b3,j,g3,m3,n3⟩:=box f.ok (.map [10] []);obtain⟨H4,At,b4,z,g4,m4,n4⟩:=box j.ok (.cells (wN (.ptr Ad 0) .nP p M 0 .nS) 140 1 false);have N1:=a.next;have N2:=f.next;have N3:=j.next
 have Y:=a.trans f;have C:=(Y.trans j).trans z;obtain⟨m,o,q,t,dk⟩:=hd;refine⟨H4,At,M,fun B=>B=At\/B=M\/Blk .nS B, ?_,C,⟨.nS,[],0,rfl,⟨z.ok,g4,zRt z j.ok g3,trivial,⟨Ad,m,o,q,t,rfl,dk.prs K C⟩, .inl rfl, .inl (zRw ..),by simp,by simp,fun B J=>qG (hx B J) C.next⟩,fun s nd H=>by simp[jX]at H,by simp,by omega,by simp,hr,fun B=>Iff.rfl⟩,fun B J=> ?_⟩
 .have r1:ldN 3 (.ptr u 0) H1=some (.agg (jS p)):=by rw[jR y];rfl
  have r2:ldN 3 (.ptr u 0) N=some (.agg (jS p)):=by rw[jR (zRt f a.ok y)];rfl
  have r3:Eng.ld1 (.ptr u 0) N=some (.int .i64 p.at_):=by rw[jM (zRt f a.ok y)];rfl
  have Z: ¬(((0:Nat):Int)≠((0:Nat):Int)):=by omega
  have a0: ¬p.at_=((1:Nat):Int):=by omega
  have bs:vJ [(0,1),(1,1),(2,3),(5,1),(6,1),(7,1)] [.nP, .nP, .int .i64 (0:Nat), .int .i64 (0:Nat), .int .u64 (0:Nat), .nM, .int .u64 (0:Nat), .nS] [(0, .ptr Ad 0),(1, .nP),(2, .agg (jS p)),(3, .map M)]=some (.agg (wN (.ptr Ad 0) .nP p M 0 .nS)):=rfl;simp(maxSteps:=999999)(disch:=omega) only[f18,eZ,b1,cq,r1,e2,jN,nth,Z,r3,a0,r2,mkM,b3,bs,b4]
 .rcases J with rfl | rfl | e
  .omega
  .omega
  .exact(zRu.1 e).elim
theorem kZ.get2 (e:kZ A B h p N P)(a:Blk p Y): ∃P B g,h.h.get Y=some (.cells P B A g):=by
 rcases e with⟨_,⟨rfl,_⟩ | ⟨k,rfl,_,f⟩⟩ | ⟨_,k,j,g,rfl,_,f,_⟩
 .exact(zRu.1 a).elim
 .rw[zRl.1 a];exact⟨_,_,_,f⟩
 .rw[zRl.1 a];exact⟨_,_,_,f⟩
theorem vD.srt (h:vD R V E l e):Srt l/\ ∀p∈l,mayK p.1=true/\p.2.length<=200:=by
 rcases h with⟨_,rfl,_⟩ | ⟨h,nd,t,S,_,_,w,_,rfl,_⟩
 .exact⟨trivial,by simp⟩
 .refine⟨zPx w, ?_⟩
  cases h with
  | zero=>exact fun p hp=>⟨(w.1.2 p hp).2.2.1,(w.1.2 p hp).2.2.2⟩
  | succ h=>
   intro p hp;obtain⟨x,f,a⟩:=List.mem_flatMap.1 hp;obtain⟨i,hi,rfl⟩:=jL f;exact zQT (w.1.2.2.at (zQ hi)) p a
def Adw (W:Nat->Prop)(H:AH)(a:Nat->Prop)(H':AH):Prop:=Stp W H H'/\ ∀B,a B->W B\/H.next<=B
theorem zJj(f:h.ok){l:List Str}(H:kZ 1 9 h p l.length (l.map S))(hl:l.length<=1000000000):
  ∃a H',f108 D n [p] h=some (a,H')/\Prs h H'/\kZ 1 9 H' a l.length (l.map S)/\ ∀B,Blk a B->h.next<=B:=by
 by_cases j:p= .nS
 .subst j;exact⟨.nS,h,by unfold f108;rfl,zRo f,H,fun B m=>(zRu.1 m).elim⟩
 .refine Y9 D n f H.row j (fun e=> ?_) hl;subst e;rcases H with⟨_,⟨H,_⟩ | ⟨_,H,_⟩⟩ | ⟨_,_,_,_,H,_⟩<;>cases H
theorem zJk(f:h.ok)(H:kZ 3 42 h p e.length (e.flatMap jS))(hl:e.length<=1000000000):
  ∃a H',f81 D n [p] h=some (a,H')/\Prs h H'/\kZ 3 42 H' a e.length (e.flatMap jS)/\ ∀B,Blk a B->h.next<=B:=by
 by_cases j:p= .nS
 .subst j;exact⟨.nS,h,by unfold f81;rfl,zRo f,H,fun B m=>(zRu.1 m).elim⟩
 .refine V2 D n f H.row j (fun v=> ?_) hl;subst v;rcases H with⟨_,⟨H,_⟩ | ⟨_,H,_⟩⟩ | ⟨_,_,_,_,H,_⟩<;>cases H
theorem K8 (h:Nd.size C<=500):C.keys.length<=500/\C.vals.length<=500/\C.kids.length<=500:=by
 have a:=Nd.sumL_ge C.keys;have f:=Nd.sumL_ge C.vals;simp only[Nd.size]at h;omega
theorem zO7 (m n:Nat)(hn:200000000<=n){dr:AV}{root:Ptr}(H:TI R h A B p f root F V N dr)(hs:Qf R V [] E=some C)(hz:Nd.size C<=500):
  ∃v H',f61 (dy (m+1)) n [.ptr A 0, .agg (jS E)] h=some (.tuple [v, .int .i64 (0:Nat)],H')/\Prs h H'/\jZ H' v C/\ ∀At,xS v At->h.next<=At:=by
 obtain⟨z1,z2,z3⟩:=K8 hz;obtain⟨H1,A3,b1,z,g1,m1,n1⟩:=box H.ok (.cells [.int .i64 E.at_, .int .i64 E.birth, .int .u64 E.sum] 42 1 false);obtain⟨Z,A4,b2,d,g2,m2,n2⟩:=box z.ok (.cells [.bool false, .nS, .nS, .nS] 119 1 false);have P2:=z.trans d;have h2:=H.prs P2;have a3:=YV (dy (m+1)) n h2;obtain⟨v,H3,e3,p3,nv,_⟩:=zDc m n hn h2 hs;obtain⟨ks,vs,ps,rfl,w1,w2,J⟩:=nv;obtain⟨H4,A6,b4,p4,g4,m4,n4⟩:=box p3.ok (.cells [.bool false, .nS, .nS, .nS] 119 1 false);have a0: ∀ {a b f:AV},Eng.isCell a=true->Eng.isCell b=true->Eng.isCell f=true->jP [.bool C.leaf,a,b,f]=true:=fun ha hb hc=>by simp[jP,ha,hb,hc];rfl
 obtain⟨H5,e5,g5,s5,n5⟩:=jV p4.ok g4 (l':=[.bool C.leaf,ks,vs,ps]) rfl (a0 w1.isCell w2.isCell J.isCell);have a4:stN 4 (.ptr A6 0) (.agg [.bool C.leaf,ks,vs,ps]) H4=some (jQ,H5):=e5;have u:Prs H3 H5:=p4.fresh s5 (fun At a2=>by omega);obtain⟨j,H6,e6,p6,k1,f1⟩:=zJj (dy (m+1)) n u.ok (w1.mono u (fun _ _ x=>x)) (by omega);have M:=u.trans p6;obtain⟨vs',H7,e7,O,k2,f2⟩:=zJj (dy (m+1)) n M.ok (w2.mono M (fun _ _ x=>x)) (by omega);have S:=M.trans O;obtain⟨o,H8,e8,y,k3,f3⟩:=zJk (dy (m+1)) n S.ok (J.mono S (fun _ _ x=>x)) (by omega);have P8:=S.trans y;have Q8:Prs Z H8:=p3.trans P8;have N1:=z.next;have N2:=d.next;have N3:=p3.next;have N4:=p4.next;have N5:=u.next;have N6:=p6.next;have N7:=O.next;have N8:=y.next
 obtain⟨H9,e9,g9,T,n9⟩:=jV P8.ok (zRt Q8 d.ok g2) (l':=[.bool C.leaf,j,vs',o]) rfl (a0 k1.isCell k2.isCell k3.isCell);have a5:stN 4 (.ptr A4 0) (.agg [.bool C.leaf,j,vs',o]) H8=some (jQ,H9):=e9;have nb: ∀ {v:AV},(∀At,Blk v At->H5.next<=At)-> ∀At,Blk v At-> ¬At=A4:=fun hv At a2=>by have:=hv At a2;omega
 refine⟨.agg [.bool C.leaf,j,vs',o],H9, ?_,(P2.trans Q8).fresh T (fun At a2=>by omega),⟨j,vs',o,rfl,((k1.mono O (fun _ _ x=>x)).mono y (fun _ _ x=>x)).mono T (nb f1),(k2.mono y (fun _ _ x=>x)).mono T (nb fun At a2=>by have:=f2 At a2;omega),k3.mono T (nb fun At a2=>by have:=f3 At a2;omega)⟩,fun At a2=> ?_⟩
 .have hp:jS E=[.int .i64 E.at_, .int .i64 E.birth, .int .u64 E.sum]:=rfl;have a6:f77 (dy (m+1)) n [.ptr A 0, .agg [.int .i64 E.at_, .int .i64 E.birth, .int .u64 E.sum]] Z=some (.tuple [.agg [.bool C.leaf,ks,vs,ps], .int .i64 (0:Nat)],H3):=e3;have a1:=zRt d z.ok g1;have r3:ldN 3 (.ptr A3 0) Z=some (.agg [.int .i64 E.at_, .int .i64 E.birth, .int .u64 E.sum]):=by rw[jR a1];rfl
  have a7: ¬E.at_=((0:Nat):Int):=by have:=zLY hs;omega
  have a8: ¬(((0:Nat):Int)≠((0:Nat):Int)):=by omega
  have t: ∀ {H':AH} (i:Nat) {x:AV} (K:Rs),H'.h.get A6=some (.cells [.bool C.leaf,ks,vs,ps] 119 1 false)->[.bool C.leaf,ks,vs,ps][i]? =some x->aveq x x=true->chk (ld1 (.ptr A6 i) H') x K=K:=fun i x K g hi hx=>kW (by rw[jM g];exact hi) hx
  have Y:=zRt p6 u.ok g5;have g7:=zRt O M.ok Y;have g8:=zRt y S.ok g7;have ab:aveq (.bool C.leaf) (.bool C.leaf)=true:=by cases C.leaf<;>rfl
  have bs:vJ [(0,1),(1,1),(2,1),(3,1)] [.bool false, .nS, .nS, .nS] [(0, .bool C.leaf),(1,j),(2,vs'),(3,o)]=some (.agg [.bool C.leaf,j,vs',o]):=by
   simp only[vJ,fD,zJY,kO k1.isCell,kO k2.isCell,kO k3.isCell];rfl
  have r9:ldN 4 (.ptr A4 0) H9=some (.agg [.bool C.leaf,j,vs',o]):=gJ g9 rfl;rw[hp];simp(maxSteps:=999999)(disch:=omega) only[f61,eZ,b1,b2,a3,jM a1,a7,r3,a6,jN,nth,b4,a4,a8,jM g5,e6,t 0 _ Y rfl ab,t 2 _ Y rfl (kK w2.row),t 3 _ Y rfl (kK J.row),e7,t 0 _ g7 rfl ab,t 3 _ g7 rfl (kK J.row),e8,t 0 _ g8 rfl ab,bs,a5,r9]
 .rcases wO.1 a2 with e | e | e
  .have:=f1 At e;omega
  .have:=f2 At e;omega
  .have:=f3 At e;omega
theorem zLe{j:AV}(H:TI R h A B p f E F V N j):
  f24 D n [.ptr A 0] h=some (.int .i64 V.length,h):=by
 have At:=YV D n H;have m:ld1 (.ptr A 5) h=some (.map B):=by rw[jM H.gT];rfl
 have hm:QR (.map B) h=some (.int .i64 V.length):=by
  simp only[QR,H.gM,kF,H.pq.len];rfl
 simp(maxSteps:=999999)(disch:=omega) only[f24,eZ,At,m,hm]
theorem zEc{u:AV}(H:TI R h A B p f E F V N u):
  ∃H',f19 D n [.ptr A 0] h=some (.agg (jS E),H')/\Prs h H':=by
 obtain⟨j,A2,b1,a,x,M,O⟩:=box H.ok (.cells [.int .i64 (0:Nat), .int .i64 (0:Nat), .int .u64 (0:Nat)] 42 1 false);have m:=H.prs a;have o:=YV D n m;obtain⟨d,y,z,C,S⟩:=jV a.ok x (l':=jS E) rfl rfl;have t:stN 3 (.ptr A2 0) (.agg (jS E)) j=some (jQ,d):=y;have J:ldN 3 (.ptr A 2) j=some (.agg (jS E)):=by rw[jR m.gT];rfl
 have K:ldN 3 (.ptr A2 0) d=some (.agg (jS E)):=by rw[jR z];rfl
 refine⟨d, ?_,a.fresh C (fun At T=>by omega)⟩;simp(maxSteps:=999999)(disch:=omega) only[f19,eZ,b1,o,J,t,K]
structure Rdr (At N0 k:Nat)(root:Ptr)(Q:Ptr->Option Nd.Node)(G:AH->(Nat->Prop)->Prop):Prop where
 ok: ∀ {H W},G H W->H.ok
 lt: ∀ {H W},G H W-> ∀B,W B->B<H.next
 frame: ∀ {H H' W S},G H W->Stp S H H'->(∀B,S B->N0<=B/\ ¬W B)->G H' W
 root: ∀ {H W} (D:Dyn) (n:Nat),G H W-> ∃H',f19 D n [.ptr At 0] H=some (.agg (jS root),H')/\Prs H H'
 dirty: ∀ {H W} (D:Dyn) (n:Nat),G H W->f24 D n [.ptr At 0] H=some (.int .i64 k,H)
 load: ∀ {H W p nd} (m n:Nat),100000000<=m->200000000<=n->G H W->Q p=some nd->Nd.size nd<=500-> ∃v H' W',f61 (dy m) n [.ptr At 0, .agg (jS p)] H=some (.tuple [v, .int .i64 (0:Nat)],H')/\G H' W'/\Adw W H W' H'/\jZ H' v nd/\ ∀B,xS v B->H.next<=B/\ ¬W' B
def Rdr.prs (r:Rdr A B N E t a)(At:a h w)(s:Prs h L):a L w:=r.frame At s (fun _ x=>x.elim)
def GD0 (N0 At M Ad:Nat)(E:Ev)(root:Ptr)(q:PN)(H:AH)(W:Nat->Prop):Prop:=(∀B,¬W B)/\At<N0/\M<N0/\ ∃es m a f h j o,TI E H At M (.ptr Ad 0) .nP root es q m a/\(∀kv∈es,∀B,xS kv.2 B->B<N0)/\(∀B,Blk a B->B<N0)/\DkI H Ad E.nb E.ws f h j o/\Ad<N0/\f<N0/\h<N0/\ ∀B,Blk j B->B<N0
def zEh (N0 At M Ad:Nat)(E:Ev)(root:Ptr)(q:PN):Rdr At N0 q.length root (Qf E q []) (GD0 N0 At M Ad E root q) where
 ok:=fun⟨_,_,_,_,_,_,_,_,_,_,ti,_⟩=>ti.ok
 lt:=fun⟨h,_⟩ B a=>(h B a).elim
 frame:=fun {H H' W S} ⟨o,h2,h3,es,last,dr,On,Nw,wv,ds,ti,h4,h5,dk,d1,d2,d3,d4⟩ s hS=>by
  have j: ∀B,B<N0-> ¬S B:=fun B a e=>by have:=(hS _ e).1;omega
  have t:=dk.stp ti.ok s (j _ d1) (j _ d2) (j _ d3) fun B a=>j _ (d4 B a)
  exact⟨o,h2,h3,es,last,dr,On,Nw,wv,ds,ti.wr s (fun B a=>j B (by
   rcases a with rfl | rfl | e | ⟨kv,u,e⟩
   .exact h2
   .exact h3
   .exact h5 _ e
   .exact h4 kv u _ e)) t,h4,h5,t,d1,d2,d3,d4⟩
 root:=fun D n ⟨_,_,_,_,_,_,_,_,_,_,ti,_⟩=>zEc D n ti
 dirty:=fun D n ⟨_,_,_,_,_,_,_,_,_,_,ti,_⟩=>zLe D n ti
 load:=fun {H W p nd} m n hm y ⟨o,h2,h3,es,last,dr,On,Nw,wv,ds,ti,h4,h5,dk,d⟩ hq hz=>by
  obtain⟨z,rfl⟩: ∃k,m=k+1:=⟨m - 1,by omega⟩;obtain⟨v,H',e,p,C,f⟩:=zO7 z n y ti hq hz;exact⟨v,H',W,e,⟨o,h2,h3,es,last,dr,On,Nw,wv,ds,ti.prs p,h4,h5,dk.prs ti.ok p,d⟩,⟨p.mono fun _ _ x=>x.elim,fun B a=> .inl a⟩,C,fun B a=>⟨f B a,o B⟩⟩
end Go.Eng.Sh
namespace Go.Bt
open Go.Nd (Str Kvs Srt rising)
open Go.Eng (ltS kN wX kB xK)
def WQ {σ α:Type}(step:σ->α->Bool×σ):List α->σ->Bool×σ
 | [],s=>(true,s)
 | a::l,s=>bif (step s a).1 then WQ step l (step s a).2 else(false,(step s a).2)
def BX (to k:Str):Bool:=to.isEmpty||ltS k to
def gK (fr:Str)(x:Ptr×Nd.Node):Kvs:=bif x.2.leaf then(x.2.keys.zip x.2.vals).drop (Nd.whereN x.2 fr)else[]
def vH {σ:Type}(to:Str)(step:σ->Str×Str->Bool×σ)(s:σ)(x:Str×Str):Bool×σ:=bif BX to x.1 then step s x else(false,s)
def fL {σ:Type}(fr to:Str)(step:σ->Str×Str->Bool×σ)(s:σ)(x:Ptr×Nd.Node):Bool×σ:=WQ (vH to step) (gK fr x) s
def inP (fr to:Str)(p:Str×Str):Bool:= !ltS p.1 fr&&BX to p.1
theorem zKT (fr:Str)(p:Ptr)(l:Kvs):gK fr (p,leafOf l)=l.drop (Nd.whereN (leafOf l) fr):=by
 simp only[gK,leafOf,zP];congr 1
 induction l with
 | nil=>rfl
 | cons a l ih=>simp[ih]
def Vs (Q:Ptr->Option Nd.Node):Nat->Nd.Node->Prop
 | 0,nd=>nd.leaf=true/\nd.vals.length=nd.keys.length/\Nd.size nd<=500
 | h+1,nd=>nd.leaf=false/\nd.kids.length=nd.keys.length+1/\Nd.size nd<=500/\ ∀p∈nd.kids,∃a,Q p=some a/\Vs Q h a
theorem Vs.sz (v:Vs t A C):Nd.size C<=500:=by
 cases A with
 | zero=>exact v.2.2
 | succ A=>exact v.2.2.1
theorem zGo (a:kU t 0 C l e)(f:wK 0 l<=500):Vs t 0 C:=by
 have h:=a.size;obtain⟨rfl,_⟩:=a;exact⟨rfl,by show(List.map Prod.snd _).length=(List.map Prod.fst _).length;rw[jE,jE],by omega⟩
end Go.Bt
namespace Go.Eng.Sh
open Go.Bt
def zPN (a:h.ok){o:Nat}{x:AV}(H:h.h.get A=some (.cells P B 1 false))(f:Eng.isCell x=true)(j:o<P.length): ∃H',stN 1 (.ptr A o) x h=some (jQ,H')/\H'.h.get A=some (.cells (P.set o x) B 1 false)/\Stp (fun e=>e=A) h H':=
 ⟨_,cE H (by decide) f j,by rw[zRk,if_pos rfl],(zRo a).put (a.lt H) _ (.inr rfl)⟩
def Stp.thru {S T:Nat->Prop}{H0 H a:AH}(h:Stp S H0 H)(k:Stp T H a)(f: ∀A,T A->H0.next<=A\/S A):Stp S H0 a:=
 ⟨k.ok,qN h.next k.next,fun A j m=>by
  rw[k.keep A (qG j h.next) (fun x=>by rcases f A x with y | y;omega;exact m y),h.keep A j m]⟩
def zRp:=@Stp.thru
def Adw.refl {W:Nat->Prop}{H:AH}(a:H.ok):Adw W H W H:=⟨zRo a,fun _ h=> .inl h⟩
def Adw.trans {f:AH}(W:Adw w h q L)(k:Adw q L z f):Adw w h z f:=
 ⟨zRp W.1 k.1 fun A m=>(W.2 A m).symm,fun B o=>by
  rcases k.2 B o with e | e
  .exact W.2 B e
  .exact .inr (qN W.1.next e)⟩
structure Cns {σ α:Type}(A M N0:Nat)(enc:AH->(Nat->Prop)->α->List AV->Prop)(step:σ->α->Bool×σ)(I:Nat->Bool×σ->AH->(Nat->Prop)->Prop):Prop where
 ok: ∀ {b x H W},I b x H W->H.ok
 lt: ∀ {b x H W},I b x H W-> ∀B,W B->B<H.next/\N0<=B
 mono: ∀ {b b' x H W},I b x H W->b'<=b->I b' x H W
 frame: ∀ {b x H H' W S},I b x H W->Stp S H H'->(∀B,S B-> ¬W B)->I b x H' W
 run: ∀ {b s a az H W} (m:Nat),M<=m->I (b+1) (true,s) H W->enc H W a az-> ∃H' W',(dy (m+1)).yld A az H=some (.bool (step s a).1,H')/\I b (step s a) H' W'/\Adw W H W' H'
def encN (H:AH)(W:Nat->Prop)(x:Ptr×Nd.Node)(az:List AV):Prop:= ∃v,az=[.agg (jS x.1),v]/\jZ H v x.2/\Nd.size x.2<=500/\(x.2.leaf=true->x.2.vals.length=x.2.keys.length)/\ ∀B,xS v B-> ¬W B
theorem zOW (m n:Nat)(a:h.ok)(p:Ptr): ∃H',callV [(61,f61 (dy (m+1)) n),(79,f79 (dy (m+1)) n)] (dy (m+1)) (.func 106 [] []) [.agg (jS p)] h=some (.bool false,H')/\Prs h H':=by
 obtain⟨f,A1,b1,H,j,o,q⟩:=box a (.cells (jS p) 42 1 false);refine⟨f, ?_,H⟩;show f106 (dy m) m [.agg (jS p)] h=_;simp only[f106,eZ,b1]
theorem zFd (m n A:Nat)(az:List AV)(H:AH):callV [(61,f61 (dy (m+1)) n),(79,f79 (dy (m+1)) n)] (dy (m+1)) (.yT A) az H=(dy (m+1)).yld A az H:=rfl
set_option maxRecDepth 100000 in
theorem zJq (m:Nat)(az:List AV)(H:AH):(dy (m+1)).fn 166 az H=f166 (dy m) m az H:=rfl
section
variable {σ:Type}{At N0 k M A2 Aw:Nat}{root:Ptr}{Q:Ptr->Option Nd.Node}{G:AH->(Nat->Prop)->Prop}{step:σ->Ptr×Nd.Node->Bool×σ}{I:Nat->Bool×σ->AH->(Nat->Prop)->Prop}
def Wid (Aw:Nat)(Wg a:Nat->Prop)(B:Nat):Prop:=Wg B\/a B\/B=Aw
structure Awk (Aw:Nat)(Wg Wi:Nat->Prop)(H:AH)(Wg' Wi':Nat->Prop)(H':AH):Prop where
 s:Stp (Wid Aw Wg Wi) H H'
 g: ∀B,Wg' B->Wg B\/H.next<=B
 i: ∀B,Wi' B->Wi B\/H.next<=B
def Awk.adw {f:Nat->Prop}(Aw:Awk A w q h z f L):Adw (Wid A w q) h (Wid A z f) L:=⟨Aw.s,fun B m=>by
 rcases m with e | e | e
 .exact(Aw.g B e).imp .inl id
 .exact(Aw.i B e).imp (fun x=> .inr (.inl x)) id
 .exact .inl (.inr (.inr e))⟩
def Awk.prs (Aw:Prs h L):Awk A w q h w q L:=⟨Aw.stp,fun _ x=> .inl x,fun _ x=> .inl x⟩
def Awk.refl {Aw:Nat}{Wg a:Nat->Prop}{H:AH}(h:H.ok):Awk Aw Wg a H Wg a H:=Awk.prs (zRo h)
theorem Awk.trans {Aw:Nat}{Wg p f j m o:Nat->Prop}{H H' q:AH}(h:Awk Aw Wg p H f j H')(k:Awk Aw f j H' m o q):Awk Aw Wg p H m o q:=
 ⟨(h.adw.trans k.adw).1,fun B a=>by
  rcases k.g B a with e | e
  .exact h.g B e
  .exact .inr (qN h.s.next e),fun B a=>by
  rcases k.i B a with e | e
  .exact h.i B e
  .exact .inr (qN h.s.next e)⟩
structure Wk (N0 At Aw:Nat)(G:AH->(Nat->Prop)->Prop)(I:Nat->Bool×σ->AH->(Nat->Prop)->Prop)(H:AH)(Wg Wi:Nat->Prop)(left bud:Nat)(x:Bool×σ):Prop where
 g:G H Wg
 i:I bud x H Wi
 w: ∃e,H.h.get Aw=some (.cells [.ptr At 0, .nM, .int .i64 left, .int .i64 (0:Nat)] e 1 false)
 lo:N0<=Aw
 ng: ¬Wg Aw
 ni: ¬Wi Aw
 sep: ∀B,Wi B-> ¬Wg B
variable (r:Rdr At N0 k root Q G)(c:Cns A2 M N0 encN step I)
include r c
theorem Wk.ok {H:AH}{Wg f:Nat->Prop}{left a:Nat}{x:Bool×σ}(h:Wk N0 At Aw G I H Wg f left a x):H.ok:=And.left ⟨r.ok h.g,c.ok h.i⟩
theorem Wk.lt {H:AH}{Wg a:Nat->Prop}{left f:Nat}{x:Bool×σ}(h:Wk N0 At Aw G I H Wg a left f x): ∀B,Wid Aw Wg a B->B<H.next:=fun B j=>by
 rcases j with e | e | rfl
 .exact r.lt h.g B e
 .exact(c.lt h.i B e).1
 .obtain⟨_,g⟩:=h.w;exact(r.ok h.g).lt g
theorem Wk.frame {H H':AH}{Wg j S:Nat->Prop}{left m:Nat}{x:Bool×σ}(h:Wk N0 At Aw G I H Wg j left m x)(s:Stp S H H')(a: ∀B,S B->N0<=B/\ ¬Wid Aw Wg j B):Wk N0 At Aw G I H' Wg j left m x:=by
 obtain⟨e,g⟩:=h.w;refine⟨r.frame h.g s fun B f=>⟨(a B f).1,fun w=>(a B f).2 (.inl w)⟩,c.frame h.i s fun B f w=>(a B f).2 (.inr (.inl w)),⟨e, ?_⟩,h.lo,h.ng,h.ni,h.sep⟩;rw[s.keep _ ((r.ok h.g).lt g) (fun w=>(a _ w).2 (.inr (.inr rfl)))];exact g
def Wk.prs {x:Bool×σ}(H:Wk N0 At Aw G I h w q A B x)(s:Prs h L):Wk N0 At Aw G I L w q A B x:=H.frame r c s fun _ H'=>H'.elim
theorem Wk.less {left':Nat}{x:Bool×σ}(H:Wk N0 At Aw G I h w q A B x): ∃H',stN 1 (.ptr Aw 2) (.int .i64 left') h=some (jQ,H')/\Wk N0 At Aw G I H' w q left' B x/\Stp (fun m=>m=Aw) h H':=by
 obtain⟨e,g⟩:=H.w;obtain⟨H',p,Wg,a⟩:=zPN (r.ok H.g) g (o:=2) (x:= .int .i64 left') rfl (by simp);exact⟨H',p,⟨r.frame H.g a (fun m f=>by subst f;exact⟨H.lo,H.ng⟩),c.frame H.i a (fun m f=>by subst f;exact H.ni),⟨e,Wg⟩,H.lo,H.ng,H.ni,H.sep⟩,a⟩
theorem Wk.noerr {x:Bool×σ}(H:Wk N0 At Aw G I h w q A B x): ∃H',stN 1 (.ptr Aw 3) (.int .i64 (0:Nat)) h=some (jQ,H')/\Wk N0 At Aw G I H' w q A B x/\Stp (fun m=>m=Aw) h H':=by
 obtain⟨e,g⟩:=H.w;obtain⟨H',p,Wg,a⟩:=zPN (r.ok H.g) g (o:=3) (x:= .int .i64 (0:Nat)) rfl (by simp);exact⟨H',p,⟨r.frame H.g a (fun m f=>by subst f;exact⟨H.lo,H.ng⟩),c.frame H.i a (fun m f=>by subst f;exact H.ni),⟨e,Wg⟩,H.lo,H.ng,H.ni,H.sep⟩,a⟩
theorem Wk.load {H:AH}{Wg j:Nat->Prop}{left t:Nat}{x:Bool×σ}{p:Ptr}{nd:Nd.Node}(m n:Nat)(hm:100000000<=m)(z:200000000<=n)(h:Wk N0 At Aw G I H Wg j left t x)(C:Q p=some nd)(J:Nd.size nd<=500):
  ∃v H' f,f61 (dy m) n [.ptr At 0, .agg (jS p)] H=some (.tuple [v, .int .i64 (0:Nat)],H')/\Wk N0 At Aw G I H' f j left t x/\Awk Aw Wg j H f j H'/\jZ H' v nd/\ ∀B,xS v B->H.next<=B/\ ¬Wid Aw f j B:=by
 obtain⟨v,H',f,K,N,o,O,q⟩:=r.load m n hm z h.g C J;obtain⟨e,g⟩:=h.w;have u:=(r.ok h.g).lt g;have y: ∀B,f B-> ¬j B:=fun B a hi=>by
  rcases o.2 B a with e | e
  .exact h.sep B hi e
  .have:=(c.lt h.i B hi).1;omega
 refine⟨v,H',f,K,⟨N,c.frame h.i o.1 (fun B a hi=>h.sep B hi a),⟨e,by rw[o.1.keep _ u h.ng];exact g⟩,h.lo,fun a=> ?_,h.ni,fun B hi a=>y B a hi⟩,⟨o.1.mono fun B _ a=> .inl a,o.2,fun B a=> .inl a⟩,O,fun B a=>⟨(q B a).1,fun S=> ?_⟩⟩
 .rcases o.2 _ a with e | e
  .exact h.ng e
  .omega
 .have T:=(q B a).1;rcases S with e | e | e
  .exact(q B a).2 e
  .have:=(c.lt h.i B e).1;omega
  .omega
theorem Wk.tell {s:σ}{p:Ptr}(m n:Nat)(hm:M<=m)(H:Wk N0 At Aw G I h w q A (B+1) (true,s))(y:jZ h f C)(z:Nd.size C<=500)(hl:C.leaf=true->C.vals.length=C.keys.length)(hb: ∀left,xS f left-> ¬Wid Aw w q left):
  ∃H' o,callV [(61,f61 (dy (m+1)) n),(79,f79 (dy (m+1)) n)] (dy (m+1)) (.yT A2) [.agg (jS p),f] h=some (.bool (step s (p,C)).1,H')/\Wk N0 At Aw G I H' w o A B (step s (p,C))/\Awk Aw w q h w o H':=by
 obtain⟨H',o,t,J,j⟩:=c.run m hm H.i (a:=(p,C)) (az:=[.agg (jS p),f]) ⟨f,rfl,y,z,hl,fun left nd Wg=>hb left nd (.inr (.inl Wg))⟩;obtain⟨e,g⟩:=H.w;have x:=(r.ok H.g).lt g;refine⟨H',o,by rw[zFd];exact t,⟨r.frame H.g j.1 (fun left nd=>⟨(c.lt H.i left nd).2,H.sep left nd⟩),J,⟨e,by rw[j.1.keep _ x H.ni];exact g⟩,H.lo,H.ng,fun nd=> ?_,fun left nd u=> ?_⟩,⟨j.1.mono fun left _ nd=> .inr (.inl nd),fun left nd=> .inl nd,j.2⟩⟩
 .rcases j.2 _ nd with e | e
  .exact H.ni e
  .omega
 .rcases j.2 left nd with e | e
  .exact H.sep left e u
  .have:=r.lt H.g left u;omega
omit r c
structure NB (H:AH)(W:Nat->Prop)(A:Nat)(v:AV)(nd:Nd.Node):Prop where
 g: ∃l e,v= .agg l/\H.h.get A=some (.cells l e 1 false)
 nv:jZ H v nd
 a: ¬W A
 b: ∀B,xS v B-> ¬W B
theorem NB.adw (H:NB h w A p C)(H':h.ok)(s:Adw w h q L):NB L q A p C:=by
 obtain⟨l,e,rfl,g⟩:=H.g;have o:=H'.lt g;refine⟨⟨l,e,rfl,by rw[s.1.keep _ o H.a];exact g⟩,H.nv.stp s.1 H.b,fun f=> ?_,fun B m f=> ?_⟩
 .rcases s.2 _ f with e | e
  .exact H.a e
  .omega
 .rcases s.2 _ f with e | e
  .exact H.b B m e
  .have:=H.nv.lt m;omega
end
open Go.Bt
theorem zH2 (h:Nd.size C<=500):small C:=by
 simp only[Nd.size]at h;refine⟨?_, ?_, ?_⟩<;>omega
section
variable {σ:Type}{At N0 k M A2 Aw:Nat}{root:Ptr}{Q:Ptr->Option Nd.Node}{G:AH->(Nat->Prop)->Prop}{step:σ->Ptr×Nd.Node->Bool×σ}{I:Nat->Bool×σ->AH->(Nat->Prop)->Prop}{fr to:Str}
variable (r:Rdr At N0 k root Q G)(c:Cns A2 M N0 encN step I)
include r c
end
open Go.Bt
section
variable {σ:Type}{At N0 k M A2 Aw:Nat}{root:Ptr}{Q:Ptr->Option Nd.Node}{G:AH->(Nat->Prop)->Prop}{step:σ->Ptr×Nd.Node->Bool×σ}{I:Nat->Bool×σ->AH->(Nat->Prop)->Prop}{fr to:Str}
variable (r:Rdr At N0 k root Q G)(c:Cns A2 M N0 encN step I)
include r c
end
open Go.Nd (whereN)
open Go.Bt
def encP (_:AH)(_:Nat->Prop)(x:Str×Str)(az:List AV):Prop:=az=[.agg [S x.1,S x.2]]
def lpP (b:Bool)(a f h:Nat):ALoop:=⟨bif b then .ready else .done,bif b then none else some .ret,164,0,[2,3,5],[.ptr a 0, .ptr f 0, .ptr h 0]⟩
def zPf (A2 a f h B:Nat):Prop:=B=A2\/B=a\/B=f\/B=h
structure Inn2 {σ:Type}(I:Nat->Bool×σ->AH->(Nat->Prop)->Prop)(N0 Bf Bt By A1:Nat)(fr to:Str)(b:Nat)(bo:Bool)(s:σ)(H:AH)(Wo:Nat->Prop):Prop where
 i:I b (bo,s) H Wo
 bf:Box H Bf (S fr)
 bt:Box H Bt (S to)
 by':Box H By (.yT A1)
 lo:N0<=Bf/\N0<=Bt/\N0<=By
 nw: ¬Wo Bf/\ ¬Wo Bt/\ ¬Wo By
def I2 {σ:Type}(I:Nat->Bool×σ->AH->(Nat->Prop)->Prop)(N0 A2 a f j A1:Nat)(fr to:Str)(b:Nat)(x:Bool×σ)(H:AH)(W:Nat->Prop):Prop:=
 ∃m o,Inn2 I N0 a f j A1 fr to (500*b) o x.2 H m/\(x.1=true->o=true)/\H.h.get A2=some (.loop (lpP x.1 a f j))/\N0<=A2/\ ¬m A2/\ ∀B,W B↔(m B\/zPf A2 a f j B)
section
variable {σ:Type}{A1 M N0:Nat}{step:σ->Str×Str->Bool×σ}{I:Nat->Bool×σ->AH->(Nat->Prop)->Prop}(c:Cns A1 M N0 encP step I)
include c
theorem Inn2.adw {fr to:Str}{b':Nat}{u bo':Bool}{s s':σ}(t:Inn2 I N0 A B N A1 fr to Y u s h w)(a:Adw w h q L)(i:I b' (bo',s') L q):Inn2 I N0 A B N A1 fr to b' bo' s' L q:=by
 have j:=c.ok t.i;have o: ∀ {p:Nat} {x:AV},Box h p x-> ¬w p-> ¬q p:=fun hb y z=>by
  rcases a.2 _ z with e | e
  .exact y e
  .have:=hb.lt j;omega
 exact⟨i,t.bf.mono j a.1 t.nw.1,t.bt.mono j a.1 t.nw.2.1,t.by'.mono j a.1 t.nw.2.2,t.lo,o t.bf t.nw.1,o t.bt t.nw.2.1,o t.by' t.nw.2.2⟩
theorem Inn2.frame {f j m:Nat}{fr to:Str}{b:Nat}{q:Bool}{s:σ}{H H':AH}{o S:Nat->Prop}(h:Inn2 I N0 f j m A1 fr to b q s H o)(k:Stp S H H')(a: ∀B,S B-> ¬o B/\B≠f/\B≠j/\B≠m):Inn2 I N0 f j m A1 fr to b q s H' o:=by
 have p:=c.ok h.i;exact⟨c.frame h.i k fun B t=>(a B t).1,h.bf.mono p k fun e=>(a _ e).2.1 rfl,h.bt.mono p k fun e=>(a _ e).2.2.1 rfl,h.by'.mono p k fun e=>(a _ e).2.2.2 rfl,h.lo,h.nw⟩
def Inn2.drop {fr to:Str}{b':Nat}{m:Bool}{s:σ}(a:Inn2 I N0 A B N A1 fr to Y m s h w)(hb:b'<=Y):Inn2 I N0 A B N A1 fr to b' m s h w:=⟨c.mono a.i hb,a.bf,a.bt,a.by',a.lo,a.nw⟩
theorem zBT {m n C Bf t u:Nat}{fr to:Str}{nd:Nd.Node}{v:AV}(hm:M<=m)(a7:nd.vals.length=nd.keys.length)(hz:nd.keys.length<=500):
  ∀(rr i x:Nat) {b:Nat} {s:σ} {H:AH} {f:Nat->Prop},i+rr=nd.keys.length->rr<x->Inn2 I N0 Bf t u A1 fr to (b+rr) true s H f->NB H f C v nd->
   ∃H' a3 J e,jb 2 (kJ x (QZ (dy (m+1)) n) [.ptr t 0, .ptr u 0, .ptr C 0, .int .i64 i] H) (zER (dy (m+1)) n)=some (e,H')/\
    Inn2 I N0 Bf t u A1 fr to b J (WQ (vH to step) ((nd.keys.zip nd.vals).drop i) s).2 H' a3/\Adw f H a3 H'/\((WQ (vH to step) ((nd.keys.zip nd.vals).drop i) s).1=true->J=true/\e= .norm [])/\((WQ (vH to step) ((nd.keys.zip nd.vals).drop i) s).1=false->e= .ret (.tuple []))
 | _,_,0,_,_,_,_,_,hk,_,_=>by omega
 | 0,i,x+1,b,s,H,f,he,_,hi,nb=>by
  obtain⟨l,e,rfl,g⟩:=nb.g;obtain⟨ks,vs,ps,hl,Y,w2,w3⟩:=nb.nv;simp only[AV.agg.injEq]at hl;subst hl;have o:Strs H ks nd.keys:=Y.row;have a6:(nd.keys.zip nd.vals).drop i=[]:=qO (by simp;omega);rw[a6];refine⟨H,f,true, .norm [], ?_,hi,Adw.refl (c.ok hi.i),fun _=>⟨rfl,rfl⟩,fun h=>by simp[WQ]at h⟩;have p: ¬(i:Int)< (nd.keys.length:Int):=by omega
  rw[jW (i:=2) (vs':=[]) (H':=H) (by simp(maxSteps:=999999)(disch:=omega) only[QZ,eZ,jM g,o.lnSl,p])];simp only[jb,zER,eZ];rfl
 | rr+1,i,x+1,b,s,H,f,he,hkf,hi,nb=>by
  have a8:=nb;obtain⟨l,e,rfl,g⟩:=nb.g;obtain⟨ks,vs,ps,hl,Y,w2,w3⟩:=nb.nv;simp only[AV.agg.injEq]at hl;subst hl;have o:Strs H ks nd.keys:=Y.row;have hy:Strs H vs nd.vals:=w2.row;have a9:i<nd.keys.length:=by omega
  have b0:i<nd.vals.length:=by omega
  obtain⟨qk,Z,O⟩:=o.at a9;obtain⟨qv,iv,a4⟩:=hy.at b0;have T:(i:Int)< (nd.keys.length:Int):=by omega
  have hi1:(i:Int)+((1:Nat):Int)=((i+1:Nat):Int):=by omega
  have hS:(AV.str 0 0)=S []:=rfl;have hL:(nd.keys.zip nd.vals).drop i=(nd.keys[i],nd.vals[i])::(nd.keys.zip nd.vals).drop (i+1):=by
   rw[qI (by simp;omega),List.getElem_zip]
  rw[hL];have a5:vJ [(0,1),(1,1)] [S [],S []] [(0,S nd.keys[i]),(1,S nd.vals[i])]=some (.agg [S nd.keys[i],S nd.vals[i]]):=rfl;have a0: ∀az H,callV [(107,f107 (dy (m+1)) n),(79,f79 (dy (m+1)) n)] (dy (m+1)) (.yT A1) az H=(dy (m+1)).yld A1 az H:=fun _ _=>rfl
  cases j:BX to nd.keys[i]with
  | false=>
   have y:vH to step s (nd.keys[i],nd.vals[i])=(false,s):=by simp only[vH,j,qH]
   simp only[WQ,y,qH];refine⟨H,f,true, .ret (.tuple []), ?_,hi.drop c (b':=b) (by omega),Adw.refl (c.ok hi.i),fun h=>by simp at h,fun _=>rfl⟩;simp only[BX,Bool.or_eq_false_iff]at j;have q:d7 .neq (S to) (S [])=some (.bool true):=by
    rw[vE];have:to≠[]:=fun e=>by rw[e]at j;simp at j
    simp[this]
   have p:d7 .geq (S nd.keys[i]) (S to)=some (.bool true):=by rw[zAS,j.2];rfl
   rw[aO (v:= .tuple []) (H':=H) (by simp(maxSteps:=999999)(disch:=omega) only[QZ,eZ,jM g,o.lnSl,T,hi.bt.ld,hS,q,Z,O,p])];rfl
  | true=>
   obtain⟨H1,b1,K,i1,N⟩:=c.run m hm hi.i (a:=(nd.keys[i],nd.vals[i])) (az:=[.agg [S nd.keys[i],S nd.vals[i]]]) rfl;have z:=hi.adw c N (b':=b+rr) (bo':=(step s (nd.keys[i],nd.vals[i])).1) (s':=(step s (nd.keys[i],nd.vals[i])).2) i1;have y:vH to step s (nd.keys[i],nd.vals[i])=step s (nd.keys[i],nd.vals[i]):=by simp only[vH,j,zP]
   have body:QZ (dy (m+1)) n [.ptr t 0, .ptr u 0, .ptr C 0, .int .i64 i] H=some (bif (step s (nd.keys[i],nd.vals[i])).1 then .norm [.ptr t 0, .ptr u 0, .ptr C 0, .int .i64 (i+1:Nat)]else .ret (.tuple []),H1):=by
    by_cases ht:to=[]
    .have q:d7 .neq (S to) (S [])=some (.bool false):=by rw[vE];simp[ht]
     cases hb:(step s (nd.keys[i],nd.vals[i])).1<;>rw[hb]at K<;>simp(maxSteps:=999999)(disch:=omega) only[QZ,eZ,zP,qH,jM g,o.lnSl,T,hi.bt.ld,hi.by'.ld,hS,q,Z,O,iv,a4,a5,a0,K,hi1]
    .have q:d7 .neq (S to) (S [])=some (.bool true):=by rw[vE];simp[ht]
     have b2:ltS nd.keys[i] to=true:=by simpa[BX,ht]using j
     have p:d7 .geq (S nd.keys[i]) (S to)=some (.bool false):=by rw[zAS,b2];rfl
     cases hb:(step s (nd.keys[i],nd.vals[i])).1<;>rw[hb]at K<;>simp(maxSteps:=999999)(disch:=omega) only[QZ,eZ,zP,qH,jM g,o.lnSl,T,hi.bt.ld,hi.by'.ld,hS,q,Z,O,p,iv,a4,a5,a0,K,hi1]
   have b3:=a8.adw (c.ok hi.i) N
   cases hb:(step s (nd.keys[i],nd.vals[i])).1 with
   | false=>
    rw[hb]at body z;simp only[qH]at body;simp only[WQ,y,hb,qH];refine⟨H1,b1,false, .ret (.tuple []), ?_,z.drop c (b':=b) (by omega),N,fun h=>by simp at h,fun _=>rfl⟩;rw[aO body];rfl
   | true=>
    rw[hb]at body z;simp only[zP]at body;simp only[WQ,y,hb,zP];obtain⟨H2,b4,J,e,e2,i2,a2,t2,f2⟩:=zBT hm a7 hz rr (i+1) x (by omega) (by omega) z b3;refine⟨H2,b4,J,e, ?_,i2,N.trans a2,t2,f2⟩;rw[kD body];exact e2
end
open Go.Nd (whereN)
open Go.Bt
section
variable {σ:Type}{A1 M N0:Nat}{step:σ->Str×Str->Bool×σ}{I:Nat->Bool×σ->AH->(Nat->Prop)->Prop}(c:Cns A1 M N0 encP step I)
include c
omit c in
theorem zJo (m:Nat)(o:h.h.get A=some (.loop (lpP true B N Y)))(az:List AV):(dy (m+1)).yld A az h=WU (dy m) m A (lpP true B N Y) az h:=by
 show YP (tabR (dy m) m) A az h=_;simp only[YP,o];rfl
theorem zIc {fr to:Str}{s:σ}{a:Ptr×Nd.Node}(m:Nat)(hm:M+300000000<=m)(hi:I2 I N0 A B N Y A1 fr to (j+1) (true,s) h w)(he:encN h w a P):
  ∃H' W',(dy (m+1)).yld A P h=some (.bool (fL fr to step s a).1,H')/\I2 I N0 A B N Y A1 fr to j (fL fr to step s a) H' W'/\Adw w h W' H':=by
 obtain⟨q,bo,hi,hb,o,a8,Z,u⟩:=hi;obtain rfl:=hb rfl;obtain⟨p,nd⟩:=a;obtain⟨v,rfl,nv,hz,a9,a3⟩:=he;simp only at nv hz a9 a3⊢;obtain⟨y,rfl⟩: ∃y,m=y+1:=⟨m - 1,by omega⟩;rw[zJo (y+1) o];have O:=c.ok hi.i;have lA:=O.lt o;have n2:A≠B/\A≠N/\A≠Y:=by
  refine⟨fun e=> ?_,fun e=> ?_,fun e=> ?_⟩
  .obtain⟨_,J⟩:=hi.bf;rw[<-e,o]at J;cases J
  .obtain⟨_,J⟩:=hi.bt;rw[<-e,o]at J;cases J
  .obtain⟨_,J⟩:=hi.by';rw[<-e,o]at J;cases J
 have c4:=hi.bf.lt O;have c5:=hi.bt.lt O;have c6:=hi.by'.lt O;have b8: ∀A2,xS v A2-> ¬q A2:=fun A2 f az=>a3 A2 f ((u A2).2 (.inl az))
 have b9: ¬xS v A:=fun f=>a3 A f ((u A).2 (.inr (.inl rfl)))
 obtain⟨ks,vs,ps,rfl,w1,w2,w3⟩:=nv;have nv:jZ h (.agg [.bool nd.leaf,ks,vs,ps]) nd:=⟨ks,vs,ps,rfl,w1,w2,w3⟩;obtain⟨H1,A7,b1,p1,g1,m1,n1⟩:=box O (.cells [.bool false, .nS, .nS, .nS] 119 1 false);obtain⟨z,e2,g2,s2,c7⟩:=jV p1.ok g1 (l':=[.bool nd.leaf,ks,vs,ps]) rfl (by simp[jP,w1.isCell,w2.isCell,w3.isCell];rfl);have S:stN 4 (.ptr A7 0) (.agg [.bool nd.leaf,ks,vs,ps]) H1=some (jQ,z):=e2;have P2:Prs h z:=p1.fresh s2 fun A2 f=>by omega
 have N1:=p1.next;have N2:=s2.next
 have b2:=zRt P2 O o;have a0: ∀K:AH->Rs,uR A z K=K (z.put A (.loop { lpP true B N Y with state:= .busy})):=fun K=>by
  simp only[uR,b2,lpP,zP,kT]
 have t:Stp (fun A2=>A2=A) z (z.put A (.loop { lpP true B N Y with state:= .busy})):=(zRo s2.ok).put (s2.ok.lt b2) _ (.inr rfl);have g3:(z.put A (.loop { lpP true B N Y with state:= .busy})).h.get A=some (.loop { lpP true B N Y with state:= .busy}):=by rw[zRk,if_pos rfl]
 generalize z.put A (.loop { lpP true B N Y with state:= .busy})=H3 at t g3 a0;have N3:=t.next
 have c0: ∀A2,q A2->A2<h.next:=fun A2 f=>(c.lt hi.i A2 f).1
 have i3:=(hi.frame c P2 (fun _ x=>x.elim)).frame c t (fun A2 f=>by subst f;exact⟨Z,n2⟩);have q3:H3.h.get A7=some (.cells [.bool nd.leaf,ks,vs,ps] 119 1 false):=by rw[t.keep _ (by omega) (by omega)];exact g2
 have c1:jZ H3 (.agg [.bool nd.leaf,ks,vs,ps]) nd:=(nv.prs P2).stp t fun A2 f e=>b9 (e▸f)
 have a4:NB H3 q A7 (.agg [.bool nd.leaf,ks,vs,ps]) nd:=⟨⟨_,_,rfl,q3⟩,c1,fun az=>by have:=c0 _ az;omega,b8⟩;have hl:Y4 [2,3,5] (lpP true B N Y).live=true:=rfl;have a2:(lpP true B N Y).vals=[.ptr B 0, .ptr N 0, .ptr Y 0]:=rfl;have b3:Stp w h H3:=(zRv P2).trans (t.mono fun A2 _ f=>(u A2).2 (.inr (.inl f)))
 cases T:nd.leaf with
 | false=>
  have a6:fL fr to step s (p,nd)=(true,s):=by simp only[fL,gK,T,qH,WQ]
  rw[a6];rw[T]at q3 S;have s4:Stp (fun A2=>A2=A) H3 (H3.put A (.loop (lpP true B N Y))):=(zRo t.ok).put (t.ok.lt g3) _ (.inr rfl);have b7:KH A none H3=some (.bool true,H3.put A (.loop (lpP true B N Y))):=by simp only[KH,g3,kT,lpP,zP]
  have i4:=i3.frame c s4 (fun A2 f=>by subst f;exact⟨Z,n2⟩);refine⟨H3.put A (.loop (lpP true B N Y)),w, ?_,⟨q,true,i4.drop c (b':=500*j) (by omega),fun _=>rfl,by rw[zRk,if_pos rfl],a8,Z,u⟩,⟨b3.trans (s4.mono fun A2 _ f=>(u A2).2 (.inr (.inl f))),fun A2 f=> .inl f⟩⟩;simp(maxSteps:=999999)(disch:=omega) only[WU,eZ,hl,a2,zP,b1,S,a0,jM q3,zIF];exact b7
 | true=>
  rw[T]at q3 S a4;obtain⟨H4,e4,p4⟩:=QF (dy (y+1)) (y+1) (by omega) t.ok (key:=fr) a4.nv.node (zH2 hz);have i4:=i3.frame c p4 (fun _ x=>x.elim);have c2:NB H4 q A7 (.agg [.bool true,ks,vs,ps]) nd:=a4.adw t.ok ⟨p4.stp,fun A2 f=> .inl f⟩;have c8:=Nd.whereN_le nd fr;have c3:nd.keys.length<=500:=by obtain⟨a,_,_⟩:=K8 hz;exact a
  obtain⟨C,a1,b4,e,e5,i5,a5,t5,f5⟩:=zBT c (m:=y) (n:=y+1) (by omega) (a9 T) c3 (nd.keys.length - whereN nd fr) (whereN nd fr) (y+1) (b:=500*j) (by omega) (by omega) (i4.drop c (b':=500*j+(nd.keys.length - whereN nd fr)) (by omega)) c2;have a6:fL fr to step s (p,nd)=WQ (vH to step) ((nd.keys.zip nd.vals).drop (whereN nd fr)) s:=by simp only[fL,gK,T,zP]
  rw[a6];have N4:=p4.next;have N5:=a5.1.next
  have g4:H4.h.get A=some (.loop { lpP true B N Y with state:= .busy}):=zRt p4 t.ok g3;have g5:C.h.get A=some (.loop { lpP true B N Y with state:= .busy}):=by rw[a5.1.keep _ (by omega) Z];exact g4
  have a7:=c.ok i5.i;have b5: ¬a1 A:=fun az=>by
   rcases a5.2 _ az with e | e
   .exact Z e
   .omega
  have r4:ldN 4 (.ptr A7 0) H3=some (.agg [.bool true,ks,vs,ps]):=gJ q3 rfl;have b6: ∀b:Bool,Stp (fun A2=>A2=A) C (C.put A (.loop (lpP b B N Y))):=fun b=>(zRo a7).put (a7.lt g5) _ (.inr rfl)
  have run: ∀b:Bool,KH A (bif b then none else some .ret) C=some (.bool b,C.put A (.loop (lpP b B N Y))):=fun b=>by
   cases b<;>simp only[KH,g5,kT,lpP,zP,qH]
  have out: ∀b:Bool,(b=true->b4=true)->I2 I N0 A B N Y A1 fr to j (b,(WQ (vH to step) ((nd.keys.zip nd.vals).drop (whereN nd fr)) s).2) (C.put A (.loop (lpP b B N Y))) (fun A2=>a1 A2\/zPf A B N Y A2):=fun b hb=>
   ⟨a1,b4,i5.frame c (b6 b) (fun A2 f=>by subst f;exact⟨b5,n2⟩),hb,by rw[zRk,if_pos rfl],a8,b5,fun A2=>Iff.rfl⟩
  have adw: ∀b:Bool,Adw w h (fun A2=>a1 A2\/zPf A B N Y A2) (C.put A (.loop (lpP b B N Y))):=fun b=>by
   refine⟨((b3.trans p4.stp).trans (a5.1.mono fun A2 _ f=>(u A2).2 (.inl f))).trans ((b6 b).mono fun A2 _ f=>(u A2).2 (.inr (.inl f))),fun A2 f=> ?_⟩;rcases f with e | e
   .rcases a5.2 A2 e with e | e
    .exact .inl ((u A2).2 (.inl e))
    .exact .inr (by omega)
   .exact .inl ((u A2).2 (.inr e))
  cases hr:(WQ (vH to step) ((nd.keys.zip nd.vals).drop (whereN nd fr)) s).1 with
  | true=>
   obtain⟨rfl,rfl⟩:=t5 hr;have hs:WQ (vH to step) ((nd.keys.zip nd.vals).drop (whereN nd fr)) s=(true,(WQ (vH to step) ((nd.keys.zip nd.vals).drop (whereN nd fr)) s).2):=by rw[<-hr]
   rw[hs];refine⟨_,_, ?_,out true (fun _=>rfl),adw true⟩;have c9:=e5;simp(maxSteps:=999999)(disch:=omega) only[WU,eZ,hl,a2,zP,b1,S,a0,jM q3,r4,i3.bf.ld,e4,e5,zIF];exact run true
  | false=>
   obtain rfl:=f5 hr;have hs:WQ (vH to step) ((nd.keys.zip nd.vals).drop (whereN nd fr)) s=(false,(WQ (vH to step) ((nd.keys.zip nd.vals).drop (whereN nd fr)) s).2):=by rw[<-hr]
   rw[hs];refine⟨_,_, ?_,out false (fun J=>by cases J),adw false⟩;simp(maxSteps:=999999)(disch:=omega) only[WU,eZ,hl,a2,zP,b1,S,a0,jM q3,r4,i3.bf.ld,e4,e5];exact run false
def zId (A2 o p q:Nat)(fr to:Str):Cns A2 (M+300000000) N0 encN (fL fr to step) (I2 I N0 A2 o p q A1 fr to) where
 ok:=fun⟨_,_,hi,_⟩=>c.ok hi.i
 lt:=fun {b x H W} ⟨j,bo,hi,hb,gA,hlo,nA,hW⟩ B a=>by
  have f:=c.ok hi.i;rcases(hW B).1 a with e | e | e | e | e
  .exact c.lt hi.i B e
  .subst e;exact⟨f.lt gA,hlo⟩
  .subst e;exact⟨hi.bf.lt f,hi.lo.1⟩
  .subst e;exact⟨hi.bt.lt f,hi.lo.2.1⟩
  .subst e;exact⟨hi.by'.lt f,hi.lo.2.2⟩
 mono:=fun⟨j,bo,hi,hb,gA,hlo,nA,hW⟩ h=>⟨j,bo,hi.drop c (by omega),hb,gA,hlo,nA,hW⟩
 frame:=fun {b x H H' W S} ⟨j,bo,hi,hb,gA,hlo,nA,hW⟩ s hS=>by
  have f:=c.ok hi.i;refine⟨j,bo,hi.frame c s fun B a=>⟨fun w=>hS B a ((hW B).2 (.inl w)),fun e=>hS B a ((hW B).2 (.inr (.inr (.inl e)))),fun e=>hS B a ((hW B).2 (.inr (.inr (.inr (.inl e))))),fun e=>hS B a ((hW B).2 (.inr (.inr (.inr (.inr e)))))⟩,hb, ?_,hlo,nA,hW⟩;rw[s.keep _ (f.lt gA) fun w=>hS A2 w ((hW A2).2 (.inr (.inl rfl)))];exact gA
 run:=fun m hm hi t=>zIc c m hm hi t
end
open Go.Nd (whereN)
open Go.Bt
section
variable {σ:Type}{At N0 k M A2 Aw:Nat}{root:Ptr}{Q:Ptr->Option Nd.Node}{G:AH->(Nat->Prop)->Prop}{step:σ->Ptr×Nd.Node->Bool×σ}{I:Nat->Bool×σ->AH->(Nat->Prop)->Prop}{fr to:Str}
variable (r:Rdr At N0 k root Q G)(c:Cns A2 M N0 encN step I)
include r c
end
section
variable {σ:Type}{At N0 k M A1 Aw:Nat}{root:Ptr}{Q:Ptr->Option Nd.Node}{G:AH->(Nat->Prop)->Prop}{step:σ->Str×Str->Bool×σ}{I:Nat->Bool×σ->AH->(Nat->Prop)->Prop}{fr to:Str}
variable (r:Rdr At N0 k root Q G)(c:Cns A1 M N0 encP step I)
include r c
end
open Go.Nd (Kvs)
open Go.Bt
def zOP {o:ALoop}(g:h.h.get A=some (.loop o))(b:Box h B p):A≠B:=fun e=>by
 obtain⟨_,hb⟩:=b;rw[<-e,g]at hb;cases hb
set_option maxRecDepth 100000 in
open Go.Nd (Srt)
def zOT (fr to:Str)(kv:Kvs):Kvs:=kv.filter (inP fr to)
end Go.Eng.Sh
namespace Go.Nd
open Go.Eng (ltS kB kN xK wX uH)
theorem filt_del (k:Str): ∀ {l:Kvs},Srt l->(l.filter fun p=>decide (p.1≠k))=delP k l
 | [],_=>rfl
 | (a,b)::l,h=>by
  by_cases e:a=k
  .subst e;rw[List.filter_cons_of_neg (by simp),delP,if_pos rfl];exact List.filter_eq_self.2 fun p hp=>decide_eq_true fun e=>by have:=h.1 p hp;rw[e,kB]at this;cases this
  .rw[List.filter_cons_of_pos (by simpa using e),delP,if_neg e,filt_del k h.2]
theorem del_not (k:Str)(h:Srt l): ∀q∈delP k l,q.1≠k:=by
 rw[<-filt_del k h];intro q a;simpa using(List.mem_filter.1 a).2
def put_del (k v:Str)(h:Srt l):putP k v (delP k l)=putP k v l:=
 Go.Eng.Sh.srt_ext (srt_put k v (srt_del k h)) (srt_put k v h) fun x=>by
  rw[QQ,QQ,KA k x h];by_cases e:x=k<;>simp[e]
theorem del_len (k:Str)(h:Srt l):(delP k l).length=if(lookP k l).isSome then l.length - 1 else l.length:=by
 cases hl:lookP k l with
 | none=>simp only[Option.isSome_none,zL,qD];rw[Go.Bt.del_none (Go.Eng.Sh.look_not hl)]
 | some v=>
  obtain⟨a,e⟩:=(Go.Eng.Sh.here_split h).2 v hl;rw[Go.Eng.Sh.del_at h a e];simp only[jJ,if_true,zV,qC,qL];omega
theorem ins_put (k v:Str): ∀l:Kvs,(∀q∈l,q.1≠k)->l.take (l.findIdx fun p=> !ltS p.1 k)++(k,v)::l.drop (l.findIdx fun p=> !ltS p.1 k)=putP k v l
 | [],_=>rfl
 | (a,b)::l,h=>by
  have f:=ins_put k v l fun q j=>h q (zC _ j)
  have m: ¬a=k:=h (a,b) (zJ ..);simp only[putP,if_neg m]
  cases hl:ltS a k with
  | true=>
   have:((a,b)::l).findIdx (fun p=> !ltS p.1 k)=(l.findIdx fun p=> !ltS p.1 k)+1:=by rw[List.findIdx_cons];simp[hl]
   rw[this,List.take_succ_cons,List.drop_succ_cons,qF,f];rfl
  | false=>
   have:((a,b)::l).findIdx (fun p=> !ltS p.1 k)=0:=by rw[List.findIdx_cons];simp[hl]
   rw[this];rfl
end Go.Nd
namespace Go.Eng
theorem zLD (l m:Str):d7 .leq (S l) (S m)=some (.bool (!ltS m l)):=by
 have h:(ltS l m||decide (l=m))= !ltS m l:=by
  cases a:ltS l m with
  | true=>simp[wX a]
  | false=>
   cases f:ltS m l with
   | true=>have:=uH f;simp;exact fun e=>this e.symm
   | false=>simp[xK a f]
 rw[<-h];simp only[d7,S,VZ,wD,aJ,ltS,S_eq]
end Go.Eng
namespace Go.Eng.Sh
open Go.Nd (Kvs Srt Str putP delP lookP)
open Go.Bt
theorem zAm(hk:h.ok)(H:VQ h p l)(hl:l.length<=1000000)(hn:l.length<n)(key:Str):
  ∃H' y,f69 D n [p,S key] h=some (y,H')/\Prs h H'/\PrG H' y (l.filter fun v=>decide (v.1≠key))/\ ∀B,Blk y B->h.next<=B:=by
 have u:lnSl p=some (.int .i64 l.length):=Rw.lnSl H;have lp:=uF (b:=zDz D n) l.length (fun i z H'=> ∃w,z=[p,S key,w, .int .i64 ((i:Nat):Int)]/\Prs h H'/\PrG H' w ((l.take i).filter fun v=>decide (v.1≠key))/\ ∀B,Blk w B->h.next<=B) (fun i z H' hi ⟨w,hus,P,g,f⟩=>by
  subst hus;have h':VQ H' p l:=Rw.stp H P fun _ _ x=>x
  obtain⟨A,o,Y,i2,i3,_⟩:=h'.at hi;have K:Eng.ld1 (.ptr A (o+0)) H'=some (S l[i].1):=i3;have O:((i:Nat):Int)< (l.length:Int):=by omega
  have hi1:((i:Nat):Int)+((1:Nat):Int)=((i+1:Nat):Int):=by omega
  have T:l.take (i+1)=l.take i++[l[i]]:=qM hi;by_cases a:l[i].1≠key
  .have j:(l.take (i+1)).filter (fun v=>decide (v.1≠key))=(l.take i).filter (fun v=>decide (v.1≠key))++[l[i]]:=by rw[T,jH,List.filter_cons_of_pos (by simpa using a)];rfl
   have a0:=List.length_filter_le (fun v=>decide (v.1≠key)) (l.take i);rw[qC]at a0;obtain⟨H1,A2,b1,t,g1,m1,n1⟩:=box P.ok (.cells (prV l[i]) 48 2 false);have a1:srcOf 2 (.slice A2 0 1 2) H1=some (1,prV l[i]):=by simp only[srcOf,g1];rfl
   obtain⟨w',H2,e2,a3,s2,f2⟩:=kZ.app (bytes:=32) (m:=1) t.ok (by decide) (kZ.mono g.1 t fun _ _ x=>x) a1 rfl rfl (by omega) (by decide);have N:=P.next;have N1:=t.next
   have a4:dW 48 2 1 [S [],S []] [(0, .agg (prV l[i]))]=some (.cells (prV l[i]) 48 2 false,fun A=> .slice A 0 1 2):=rfl;have hS:(AV.str 0 0)=S []:=rfl;refine⟨_,H2, ?_,w',rfl,(P.trans t).fresh s2 f,⟨?_,fun e=> ?_⟩,fun B C=> ?_⟩
   .simp(maxSteps:=999999)(disch:=omega) only[zDz,zIu,eZ,u,O,Y,K,vE,a,ne_eq,yD,i2,hS,a4,b1,e2,hi1]
   .rw[j,zV,yV];have e1:[l[i]].flatMap prV=prV l[i]:=by simp
    rw[e1];exact a3
   .rw[j]at e;simp at e
   .rcases f2 B C with e | e
    .exact f B e
    .omega
  .have j:(l.take (i+1)).filter (fun v=>decide (v.1≠key))=(l.take i).filter (fun v=>decide (v.1≠key)):=by rw[T,jH,List.filter_cons_of_neg (by simpa using a)];simp
   refine⟨_,H', ?_,w,rfl,P,by rw[j];exact g,f⟩;simp(maxSteps:=999999)(disch:=omega) only[zDz,zIu,eZ,u,O,Y,K,vE,a,hi1]) n _ h ⟨.nS,rfl,zRo hk,⟨.inl (zRw ..),fun _=>rfl⟩,fun B C=>(zRu.1 C).elim⟩ (by omega)
 obtain⟨q,z,J,e5,w,rfl,P5,Z,f5⟩:=lp;rw[j9]at Z;refine⟨J,w, ?_,P5,Z,f5⟩;have a2:kJ (q+1) (zDz D n) [p,S key,w, .int .i64 l.length] J=some (.exit 0 [w],J):=jW (by simp only[zDz,eZ,u,y7]);simp(maxSteps:=999999)(disch:=omega) only[f69,eZ,e5,a2,zQy]
theorem zHa(hk:h.ok)(m:Srt l)(H:VQ h f l)(hl:l.length<=1000000)(hn:l.length<n)(key x:Str):
  ∃H' T,f68 D n [f,S key,S x] h=some (T,H')/\Prs h H'/\PrG H' T (putP key x l):=by
 obtain⟨v,w,e1,z,C,f1⟩:=zAm D n hk H hl hn key;rw[Nd.filt_del key m]at C;have Z:=Nd.del_not key m;have a5:(delP key l).length<=l.length:=by have:=Nd.del_len key m;split at this<;>omega
 have N1:=z.next
 have hr:VQ v w (delP key l):=C.row;have u:lnSl w=some (.int .i64 ((delP key l).length:Nat)):=Rw.lnSl hr;obtain⟨K,t⟩: ∃K,K=(delP key l).findIdx fun p=> !ltS p.1 key:=⟨_,rfl⟩
 have a0:K<=(delP key l).length:=by rw[t];exact List.findIdx_le_length
 have lp:kJ n (zG0 D n) [w,S key,S x, .int .i64 (0:Nat)] v=some (.exit 0 [w,S key,S x, .int .i64 ((K:Nat):Int)],v):=by
  refine uX (fun i=>[w,S key,S x, .int .i64 ((i:Nat):Int)]) K (fun i hi=> ?_) (fun q=> ?_) n (by omega)
  .have a1:i< (delP key l).length:=by omega
   obtain⟨A,o,J,_,N,_⟩:=hr.at a1;have y:Eng.ld1 (.ptr A (o+0)) v=some (S (delP key l)[i].1):=N;have a:((i:Nat):Int)< (((delP key l).length:Nat):Int):=by omega
   have hi1:((i:Nat):Int)+((1:Nat):Int)=((i+1:Nat):Int):=by omega
   have j:ltS (delP key l)[i].1 key=true:=by
    rw[t]at hi;have:=List.not_of_lt_findIdx hi;simpa using this
   simp(maxSteps:=999999)(disch:=omega) only[zG0,eZ,u,a,J,y,gU,j,hi1]
  .refine jW ?_;by_cases j:K< (delP key l).length
   .obtain⟨A,o,J,_,N,_⟩:=hr.at j;have y:Eng.ld1 (.ptr A (o+0)) v=some (S (delP key l)[K].1):=N;have a:((K:Nat):Int)< (((delP key l).length:Nat):Int):=by omega
    have a2:ltS (delP key l)[K].1 key=false:=by
     subst t;have:=List.findIdx_getElem (xs:=delP key l) (p:=fun p=> !ltS p.1 key) (w:=j);simpa using this
    simp(maxSteps:=999999)(disch:=omega) only[zG0,eZ,u,a,J,y,gU,a2]
   .have a: ¬((K:Nat):Int)< (((delP key l).length:Nat):Int):=by omega
    simp(maxSteps:=999999)(disch:=omega) only[zG0,eZ,u,a]
 obtain⟨H2,A1,r1,r2,w1,H3,A2,H4,w2,H5,w3,H6,b2,c2,c3,e3,_,_,b4,e5,c5,e6,P2,P3,P6,Y⟩:=zQn z.ok C a0 (by omega) key x;have O:=Nd.ins_put key x (delP key l) Z;rw[<-t]at O;rw[O,Nd.put_del key x m]at Y;refine⟨H6,w3, ?_,z.trans P6,Y⟩;have hS:(AV.str 0 0)=S []:=rfl;have a3:dW 48 2 0 [S [],S []] []=some (.cells [] 48 2 false,fun A=> .slice A 0 0 0):=rfl;have bs:vJ [(0,1),(1,1)] [S [],S []] [(0,S key),(1,S x)]=some (.agg [S key,S x]):=rfl;have a4:dW 48 2 1 [S [],S []] [(0, .agg [S key,S x])]=some (.cells [S key,S x] 48 2 false,fun A=> .slice A 0 1 2):=rfl;simp(maxSteps:=999999)(disch:=omega) only[f68,eZ,e1,lp,zQz,hS,a3,b2,c2,e3,bs,a4,b4,e5,c5,e6]
theorem zHc(m:h.ok)(f:Srt l)(H:VQ h p l)(hl:l.length<=1000000)(o:l.length<n)(key:Str):
  ∃H',f111 D n [p,S key] h=some (.bool (lookP key l).isSome,H')/\Prs h H':=by
 obtain⟨v,w,q,t,j,z⟩:=zAm D n m H hl o key;rw[Nd.filt_del key f]at j;have l1:lnSl w=some (.int .i64 ((delP key l).length:Nat)):=Rw.lnSl j.row;have u:lnSl p=some (.int .i64 l.length):=Rw.lnSl H;have hd:=Nd.del_len key f;have hb:decide (¬(((delP key l).length:Nat):Int)=(l.length:Int))=(lookP key l).isSome:=by
  cases a:(lookP key l).isSome with
  | false=>rw[a]at hd;simp only[zL,qD]at hd;rw[hd];simp
  | true=>
   rw[a]at hd;simp only[if_true]at hd;obtain⟨x,y⟩:=qQ.1 a;obtain⟨C,_⟩:=(here_split f).2 x y;exact decide_eq_true (by omega)
 refine⟨v, ?_,t⟩;simp(maxSteps:=999999)(disch:=omega) only[f111,eZ,q,l1,u,ne_eq,hb]
end Go.Eng.Sh
namespace Go.Bt
open Go.Nd (Str Kvs Srt)
open Go.Eng (ltS kN wX kB xK)
open Go.Eng.Sh (zOT)
end Go.Bt
namespace Go.Eng.Sh
open Go.Nd (Kvs Srt putP delP lookP)
open Go.Bt Go.Bk
structure Sw where
 kd:Nat
 k:Str
 v:Str
def swV (a:Sw):List AV:=[.int .u8 a.kd,S a.k,S a.v]
def SwR (H:AH)(v:AV)(l:List Sw):Prop:=Rw 3 H v l.length (l.flatMap swV)
theorem zCa: ∀(l:List Sw) (i:Nat) (h:i<l.length),((l.flatMap swV).drop (i*3)).take 3=swV l[i]
 | p::l,0,_=>by rw[Nat.zero_mul,yL,qJ,jA (show(swV p).length=3 from rfl)];rfl
 | p::l,i+1,h=>by
  rw[qJ,show(i+1)*3=3+i*3 by omega,<-List.drop_drop,yX (show(swV p).length=3 from rfl)];exact zCa l i (by simpa using h)
theorem SwR.at {H:AH}{v:AV}{l:List Sw}(h:SwR H v l){i:Nat}(hi:i<l.length): ∃A o,(∀κ (z:Int),z=(i:Int)->dV 3 v (.int κ z)=some (.ptr A o))/\ldN 3 (.ptr A o) H=some (.agg (swV l[i]))/\Eng.ld1 (.ptr A (o+0)) H=some (.int .u8 (l[i].kd:Nat))/\Eng.ld1 (.ptr A (o+1)) H=some (S l[i].k)/\Eng.ld1 (.ptr A (o+2)) H=some (S l[i].v):=by
 obtain⟨A,o,c,e,sz,g,p,a,u,q,f⟩:=Rw.at h hi;rw[zCa l i hi]at f;have m: ∀j,j<3->c[o+j]? =(swV l[i])[j]? :=fun j t=>by
  have:=congrArg (fun x=>x[j]?) f;simp only[jF t,jG]at this;exact this
 exact⟨A,o,p,by rw[J0 a q,f],wY a (m 0 (by omega)),wY a (m 1 (by omega)),wY a (m 2 (by omega))⟩
theorem SwR.lnSl {H:AH}{v:AV}{l:List Sw}(h:SwR H v l):Eng.lnSl v=some (.int .i64 l.length):=Rw.lnSl h
theorem SwR.prs {H H':AH}{v:AV}{l:List Sw}(h:SwR H v l)(s:Prs H H'):SwR H' v l:=Rw.prs h s
def uT (s:Sw)(kv:Kvs):Kvs:=if s.kd=0 then(if JG s.k s.v then putP s.k s.v kv else kv)else if s.kd=1 then delP s.k kv else kv
theorem zEj (k v:Str): ∀kv:Kvs,(putP k v kv).length<=kv.length+1
 | []=>by simp[putP]
 | (a,b)::l=>by
  have:=zEj k v l;rw[putP];split
  .simp
  .split
   .simp only[zT];omega
   .simp
theorem zBi (s:Sw)(kv:Kvs)(h:Srt kv):(uT s kv).length<=kv.length+1:=by
 rw[uT];split
 .split
  .exact zEj ..
  .omega
 .split
  .have:=Nd.del_len s.k h;split at this<;>omega
  .omega
theorem zAv(J:100<=n){l:List Sw}(v:SwR h p l): ∃b,f50 D n [p] h=some (.bool b,h)/\(b=false->l.length<=60):=by
 have f:=v.lnSl;by_cases h60:60<l.length
 .have j:((60:Nat):Int)< (l.length:Int):=by omega
  refine⟨true, ?_,fun H=>by cases H⟩;simp(maxSteps:=999999)(disch:=omega) only[f50,eZ,f,j]
 .have j: ¬((60:Nat):Int)< (l.length:Int):=by omega
  have y: ∀(rr i a:Nat),i+rr=l.length->rr<a-> ∃b,jb 0 (kJ a (zG1 D n) [p, .int .i64 i] h) (zOs D n)=some (.ret (.bool b),h):=by
   intro rr
   induction rr with
   | zero=>
    intro i a z C;obtain⟨k,rfl⟩: ∃k,a=k+1:=⟨a - 1,by omega⟩;have x: ¬(i:Int)< (l.length:Int):=by omega
    refine⟨false, ?_⟩;rw[jW (i:=0) (vs':=[]) (H':=h) (by simp(maxSteps:=999999)(disch:=omega) only[zG1,eZ,f,x])];simp(maxSteps:=999999)(disch:=omega) only[jb,yF,zP,zOs,eZ]
   | succ rr ih=>
    intro i a z C;obtain⟨k,rfl⟩: ∃k,a=k+1:=⟨a - 1,by omega⟩;have m:(i:Int)< (l.length:Int):=by omega
    have hi1:(i:Int)+((1:Nat):Int)=((i+1:Nat):Int):=by omega
    obtain⟨A,o,q,_,_,t,u⟩:=v.at (show i<l.length by omega);by_cases hb:(decide (((1000:Nat):Int)< ((l[i].k.length:Nat):Int))||decide (((1000:Nat):Int)< ((l[i].v.length:Nat):Int)))=true
    .refine⟨true, ?_⟩;rw[aO (v:= .bool true) (H':=h) (by
      simp(maxSteps:=999999)(disch:=omega) only[zG1,eZ,f,m,q,t,u,cL,hb,if_true])]
     rfl
    .obtain⟨b,e⟩:=ih (i+1) k (by omega) (by omega);refine⟨b, ?_⟩;rw[kD (vs':=[p, .int .i64 (i+1:Nat)]) (H':=h) (by simp(maxSteps:=999999)(disch:=omega) only[zG1,eZ,f,m,q,t,u,cL,hb,hi1,qD]),e]
  obtain⟨b,e⟩:=y l.length 0 n (by omega) (by omega);refine⟨b, ?_,fun _=>by omega⟩;simp(maxSteps:=999999)(disch:=omega) only[f50,eZ,f,j,e]
structure Gst (E:Ev)(H:AH)(Gd Ad As At M L txg la:Nat)(is:Nat->Nat)(V W:Nat->Prop)(root:Ptr)(q:PN)(kv:Kvs)(T:List Ptr):Prop where
 tx:fG (.ptr Ad 0) .nP E H At M L W root q kv T
 ds:Dsk H Ad As E.nb E.ws la is V
 us: ∀r∈dsk T++E.dl,is r.at_.toNat≠0
 gG: ∃lv,H.h.get Gd=some (.cells [.ptr At 0,lv, .ptr Ad 0, .ptr As 0, .int .i64 txg] 104 1 false)/\GrP H lv kv
theorem JJ {la nb:Nat}(is:fG p f R h N Y j q E V l e)(t:Dsk h A B nb u la J w){Ad:Nat}{o:AObj}(a:h.h.get Ad=some o)(H:(∃d c g,o= .cells d c 2 g)\/ ∃d,o= .cells d 104 1 false): ¬q Ad/\ ¬w Ad:=by
 obtain⟨dr,es,a0,_,W,_,_,_,_,_,L⟩:=is;obtain⟨On,Nw,wv,dm,M,x,y,_⟩:=t;obtain⟨c8,z⟩:=x.bk;have C: ∀d c g,o≠ .cells d c 3 g:=by rcases H with⟨_,_,_,rfl⟩ | ⟨_,rfl⟩<;>simp
 have ws: ∀d c g,o≠ .cells d c 513 g:=by rcases H with⟨_,_,_,rfl⟩ | ⟨_,rfl⟩<;>simp
 have m: ∀d c,o≠ .map d c:=by rcases H with⟨_,_,_,rfl⟩ | ⟨_,rfl⟩<;>simp
 have K: ∀d,o≠ .cells d 140 1 false:=by rcases H with⟨_,_,_,rfl⟩ | ⟨_,rfl⟩<;>simp
 have As: ∀d,o≠ .cells d 145 1 false:=by rcases H with⟨_,_,_,rfl⟩ | ⟨_,rfl⟩<;>simp
 have O: ∀d,o≠ .cells d 151 1 false:=by rcases H with⟨_,_,_,rfl⟩ | ⟨_,rfl⟩<;>simp
 constructor
 .intro S;rcases(L Ad).1 S with rfl | rfl | c
  .exact K _ (qT (a.symm.trans W.gT))
  .exact m _ _ (qT (a.symm.trans W.gM))
  .exact zRs W.dg a (fun At g=>C _ At g) c
 .intro Z;rcases(y Ad).1 Z with rfl | rfl | rfl | c
  .exact As _ (qT (a.symm.trans z))
  .exact O _ (qT (a.symm.trans M.gD))
  .exact m _ _ (qT (a.symm.trans M.gN))
  .exact ws _ _ _ (qT (a.symm.trans (M.ow.get c)))
theorem Gst.prs {E:Ev}{H H':AH}{Gd Ad As At M L txg la:Nat}{is:Nat->Nat}{V W:Nat->Prop}{root:Ptr}{q:PN}{kv:Kvs}{T:List Ptr}(w:Gst E H Gd Ad As At M L txg la is V W root q kv T)(s:Prs H H'):Gst E H' Gd Ad As At M L txg la is V W root q kv T:=by
 obtain⟨lv,h,gl⟩:=w.gG;have a:=w.tx.d.okH;obtain⟨j,es,f,m,o,p⟩:=w.tx;exact⟨⟨j,es,f,m,o.prs s,p⟩,w.ds.prs a s,w.us,lv,zRt s a h,gl.prs s⟩
theorem DskG.stp {S:Nat->Prop}{H H':AH}{Ad As nb la:Nat}{ws:Ws}{is:Nat->Nat}{V:Nat->Prop}(d:Dsk H Ad As nb ws la is V)(j:H.ok)(s:Stp S H H')(f: ∀B,V B-> ¬S B)(o: ∀B ks es,H.h.get B=some (.map ks es)->S B->ks=[10]):Dsk H' Ad As nb ws la is V:=by
 obtain⟨p,q,t,u,m,x,a,r⟩:=d;exact⟨p,q,t,u,m.stp j s (f _ ((a _).2 (.inr (.inl rfl)))) (fun h=>by have:=o _ _ _ m.gO h;simp at this) (f _ ((a _).2 (.inr (.inr (.inl rfl))))) (fun B y=>f _ ((a _).2 (.inr (.inr (.inr y))))),x.stp j s (f _ ((a _).2 (.inl rfl))),a,r⟩
theorem TreeG.dsk {la nb:Nat}(o:fG p f R h N Y j q E V l e)(M:Dsk h A B nb u la J w):(∀Ad,w Ad-> ¬q Ad)/\ ∀Ad ks es,h.h.get Ad=some (.map ks es)->q Ad->ks=[10]:=by
 obtain⟨x,es,At,_,L,_,_,_,_,_,m⟩:=o;have H:=zA7 L M;refine⟨fun Ad t As=>H Ad ?_ t,fun Ad ks es' a As=> ?_⟩
 .rcases(m Ad).1 As with ws | ws | ws
  .exact .inl ws
  .exact .inr (.inl ws)
  .exact .inr (.inr (.inl ws))
 .rcases(m Ad).1 As with rfl | rfl | ws
  .rw[L.gT]at a;cases a
  .rw[L.gM]at a;cases a;rfl
  .exact absurd ws (zRs L.dg a (fun y g=>by simp))
theorem Gst.tree {f:Ev}{H' x txg la:Nat}{t:Ptr}{y:PN}{Ad:List Ptr}(At:Gst R h A B N Y j H' txg la J w q E V l e)(K:fG (.ptr B 0) .nP f L Y j x z t y m Ad)(a:AdT q h z L)(c:Chd R f e Ad)(W:h.h.get A=some (.cells [.ptr Y 0,p, .ptr B 0, .ptr N 0, .int .i64 txg] 104 1 false))(gl:GrP h p l):
  Dsk L B N f.nb f.ws la J w/\(∀r∈dsk Ad++f.dl,J r.at_.toNat≠0)/\L.h.get A=some (.cells [.ptr Y 0,p, .ptr B 0, .ptr N 0, .int .i64 txg] 104 1 false)/\GrP L p l:=by
 have root:=At.tx.d.okH;obtain⟨M,C⟩:=TreeG.dsk At.tx At.ds;refine⟨?_,fun r hr=>At.us r (c.pm.mem_iff.1 hr), ?_, ?_⟩
 .rw[c.nb,c.ws];exact DskG.stp At.ds root a.1 M C
 .rw[a.1.keep _ (root.lt W) (JJ At.tx At.ds W (.inr ⟨_,rfl⟩)).1];exact W
 .exact gl.mono a.1 fun Gd As=>by
   obtain⟨is,o,g,H⟩:=kZ.get2 gl As;exact(JJ At.tx At.ds H (.inl ⟨_,_,_,rfl⟩)).1
theorem Gst.note {H' root la:Nat}(m:fG (.ptr B 0) .nP R h Y j H' q E V l e)(u:Dsk h B N R.nb R.ws la J w)(Ad: ∀r∈dsk e++R.dl,J r.at_.toNat≠0){O:Nat}(f:h.h.get A=some (.cells (.ptr O 0::P) 104 1 false))(s:Stp (fun Gd=>Gd=A) h L)(As:L.h.get A=some (.cells [.ptr Y 0,p, .ptr B 0, .ptr N 0, .int .i64 root] 104 1 false))(gl:GrP h p l):Gst R L A B N Y j H' root la J w q E V l e:=by
 have Z:=m.d.okH;obtain⟨o,o2⟩:=JJ m u f (.inr ⟨_,rfl⟩);have C: ∀Gd,Blk p Gd-> ¬Gd=A:=fun Gd a W=>by
  obtain⟨is,e',g,H⟩:=kZ.get2 gl a;rw[W,f]at H;simp at H
 obtain⟨dr,es,z,h1,x,h3,h4,h5,h6,h7,At⟩:=m;have t:=DskG.stp u Z s (fun Gd a W=>o2 (W▸a)) (fun Gd ks es' y W=>by rw[W,f]at y;cases y);refine⟨⟨dr,es,z,h1, ?_,h3,h4,h5,h6,h7,At⟩,t,Ad,p,As,gl.mono s C⟩;obtain⟨On,Nw,wv,dm,dk,sp,hV,_⟩:=t;refine x.wr s (fun Gd a W=> ?_) dk;subst W;rcases a with W | W | W | ⟨l,M,W⟩
 .exact o ((At _).2 (.inl W))
 .exact o ((At _).2 (.inr (.inl W)))
 .exact o ((At _).2 (.inr (.inr W)))
 .obtain⟨nd,K⟩:=x.pq.node l M;exact K.nblk f (.inl ⟨_,_,_,_,rfl,fun _ _ H=>by cases H⟩) W
theorem stG (H:h.ok){c d x y:AV}(i:Nat)(l':List AV)(hl:l'=[p,f,c,d,x].set i y)(hi:i<5)(g:h.h.get A=some (.cells [p,f,c,d,x] 104 1 false))(j:isCell y=true): ∃H',stN 1 (.ptr A i) y h=some (jQ,H')/\H'.h.get A=some (.cells l' 104 1 false)/\Stp (fun B=>B=A) h H'/\H'.next=h.next:=by
 subst hl;exact xM H g (o:=i) (x:=y) j (by simpa using hi)
theorem zJ6 (k:Str)(kv:Kvs):aY k kv=if mayK k then(if(lookP k kv).isSome then 0 else 5)else 1:=rfl
theorem zF0 {k:Str}(h: ∀p∈l,mayK p.1=true):decide (((aY k l:Nat):Int)=((0:Nat):Int))=(lookP k l).isSome:=by
 rw[zJ6]
 cases hl:lookP k l with
 | none=>cases mayK k<;>simp
 | some v=>
  have hm:mayK k=true:=by
   by_cases e:mayK k=true
   .exact e
   .rw[Nd.look_none (fun p hp a=>e (by rw[<-a];exact h p hp))]at hl;cases hl
  simp[hm]
theorem Gst.srt {E:Ev}{H:AH}{Gd Ad As At M L txg la:Nat}{is:Nat->Nat}{V W:Nat->Prop}{root:Ptr}{q:PN}{kv:Kvs}{T:List Ptr}(w:Gst E H Gd Ad As At M L txg la is V W root q kv T):Srt kv/\ ∀p∈kv,mayK p.1=true/\p.2.length<=200:=by
 obtain⟨_,_,_,_,_,_,_,_,_,hr,_⟩:=w.tx;exact hr.srt
theorem zEb(a:fG p f R h A B N w E V l e): ∃H',f19 D n [.ptr A 0] h=some (.agg (jS E),H')/\Prs h H':=by
 obtain⟨_,_,_,_,H,_⟩:=a;exact zEc D n H
theorem Gst.side {H' txg la:Nat}(W:Gst R h A B N Y j H' txg la J w q E V l e){Gd kv:Nat}(o:h.h.get Gd=some (.cells (p::P) kv 1 false))(O: ∀a b,p≠ .str a b)(M: ¬(q Gd\/w Gd))(S:Gd≠A)(s:Stp (fun Ad=>Ad=Gd) h L):Gst R L A B N Y j H' txg la J w q E V l e:=by
 obtain⟨t,At,Z,lv,u,gl⟩:=W;have y:=t.d.okH;have T:=DskG.stp At y s (fun Ad f kv=>M (.inr (kv▸f))) (fun Ad ks es' z kv=>by rw[kv,o]at z;cases z);obtain⟨dr,es,is,h1,C,h3,h4,h5,h6,h7,m⟩:=t;refine⟨⟨dr,es,is,h1, ?_,h3,h4,h5,h6,h7,m⟩,T,Z,lv,by rw[s.keep _ (y.lt u) (fun kv=>S kv.symm)];exact u,gl.mono s fun Ad f kv=> ?_⟩
 .obtain⟨On,Nw,wv,dm,dk,sp,hV,_⟩:=T;refine C.wr s (fun Ad f kv=> ?_) dk;subst kv;rcases f with kv | kv | kv | ⟨l,K,kv⟩
  .exact M (.inl ((m _).2 (.inl kv)))
  .exact M (.inl ((m _).2 (.inr (.inl kv))))
  .exact M (.inl ((m _).2 (.inr (.inr kv))))
  .obtain⟨nd,As⟩:=C.pq.node l K;exact As.nblk o (.inl ⟨_,_,_,_,rfl,O⟩) kv
 .obtain⟨root,e',g,H⟩:=kZ.get2 gl f;subst kv;rw[o]at H;simp at H
def GS (H0:AH)(Gd i:Nat)(kv:Kvs)(H:AH):Prop:= ∃E Ad As At M L txg la is V W root q T,Gst E H Gd Ad As At M L txg la is V W root q kv T/\(L<=200*i/\E.nb=1024)/\txg<=i/\kv.length<=i/\Prs H0 H/\ ∀B,(W B\/V B\/B=Gd)->H0.next<=B
theorem GS.prs {H0 H H':AH}{Gd i:Nat}{kv:Kvs}(g:GS H0 Gd i kv H)(p:Prs H H'):GS H0 Gd i kv H':=by
 obtain⟨E,Ad,As,At,M,L,txg,la,is,V,W,root,q,T,w,a,b,c,d,e⟩:=g;exact⟨E,Ad,As,At,M,L,txg,la,is,V,W,root,q,T,w.prs p,a,b,c,d.trans p,e⟩
theorem zFU (m n:Nat)(hm:400000000<=m)(hn:300000000<=n)(k3:h.ok){v:AV}{kv:List Sw}(hv:SwR h v kv)(hi:B<kv.length)(hl:kv.length<=100)(g:GS h A B l L):
  ∃H',fR (dy (m+2)) n [.ptr A 0,v, .int .i64 B] L=some (.norm [.ptr A 0,v, .int .i64 (B+1:Nat)],H')/\GS h A (B+1) (uT kv[B] l) H':=by
 obtain⟨E,Ad,As,At,M,H,txg,la,is,V,W,root,q,T,w,⟨hL,a9⟩,k4,k5,p0,j⟩:=g;have f2:SwR L v kv:=hv.prs p0;have b0:=f2.lnSl;have b2:(B:Int)< (kv.length:Int):=by omega
 have hi1:(B:Int)+((1:Nat):Int)=((B+1:Nat):Int):=by omega
 obtain⟨Gd,o,i1,i2,_,_,_⟩:=f2.at hi;have b3:=i1 .i64 _ rfl;generalize kv[B]=s at*
 obtain⟨hs,h3⟩:=w.srt;have hk:=w.tx.d.okH;obtain⟨H1,C,b1,p1,g1,m1,n1⟩:=box hk (.cells [.int .u8 (0:Nat), .str 0 0, .str 0 0] 113 1 false);obtain⟨H2,e2,g2,s2,n2⟩:=jV p1.ok g1 (l':=swV s) rfl rfl;have b5:stN 3 (.ptr C 0) (.agg (swV s)) H1=some (jQ,H2):=e2;have b6:bxV 113 (.agg [.int .u8 (0:Nat), .str 0 0, .str 0 0])=some (.cells [.int .u8 (0:Nat), .str 0 0, .str 0 0] 113 1 false,fun Gd=> .ptr Gd 0):=rfl;have P2:Prs L H2:=p1.fresh s2 fun i a=>by omega
 have N1:=p1.next;have N2:=s2.next;have N0:=p0.next
 have w2:=w.prs P2;have d1:=p0.trans P2;have f3:=P2.ok;obtain⟨lv,a2,d2⟩:=w2.gG;have l6:C<H2.next:=f3.lt g2
 have z6: ¬(W C\/V C):=fun H0=>by
  rcases H0 with H0 | H0
  .have:=w.tx.d.lt C H0;omega
  .have:=w.ds.lt hk C H0;omega
 have rd: ∀ {G:AH},G.h.get C=some (.cells (swV s) 113 1 false)->Eng.ld1 (.ptr C 0) G=some (.int .u8 s.kd)/\Eng.ld1 (.ptr C 1) G=some (S s.k)/\Eng.ld1 (.ptr C 2) G=some (S s.v):=fun H0=>⟨by rw[jM H0];rfl,by rw[jM H0];rfl,by rw[jM H0];rfl⟩
 obtain⟨y0,y1,y2⟩:=rd g2;have rg: ∀ {G:AH} {at_:Nat} {lv:AV} {t:Nat},G.h.get A=some (.cells [.ptr at_ 0,lv, .ptr Ad 0, .ptr As 0, .int .i64 t] 104 1 false)->Eng.ld1 (.ptr A 0) G=some (.ptr at_ 0)/\Eng.ld1 (.ptr A 1) G=some lv/\Eng.ld1 (.ptr A 2) G=some (.ptr Ad 0)/\Eng.ld1 (.ptr A 3) G=some (.ptr As 0)/\Eng.ld1 (.ptr A 4) G=some (.int .i64 t):=fun H0=>⟨by rw[jM H0];rfl,by rw[jM H0];rfl,by rw[jM H0];rfl,by rw[jM H0];rfl,by rw[jM H0];rfl⟩
 obtain⟨x0,x1,_,x3,x4⟩:=rg a2;have k2:=zBi s l hs;have nG:C≠A:=fun e=>by rw[e,a2]at g2;simp[swV]at g2
 by_cases c7:s.kd=0
 .have b7:(s.kd:Int)=((0:Nat):Int):=by omega
  obtain⟨H3,E3,W3,T3,e3,t3,O,c3⟩:=zHz m n (by omega) hn (k:=s.k) (v:=s.v) w2.tx.d (by omega) (by omega);obtain⟨a1,q3,u⟩:=t3.x;obtain⟨b9,c0,a4,a6⟩:=w2.tree u O c3 a2 d2;have N3:=O.1.next
  have c1:Prs h H3:=d1.fresh O.1 fun i a=>j i (.inl a)
  have b8: ∀i,(W3 i\/V i\/i=A)->h.next<=i:=fun i a=>by
   rcases a with x | x | x
   .rcases O.2 i x with y | y
    .exact j i (.inl y)
    .omega
   .exact j i (.inr (.inl x))
   .exact j i (.inr (.inr x))
  by_cases hp:JG s.k s.v=true
  .rw[if_pos hp]at e3 u;have g3:=(O.1.keep C l6 (fun H0=>z6 (.inl H0))).trans g2;obtain⟨_,d3,h4⟩:=rd g3;obtain⟨d4,d5,_⟩:=rg a4;obtain⟨H4,v4,e4,f,g4⟩:=zHa (dy (m+2)) n u.d.okH hs a6.row (by omega) (by omega) s.k s.v;have J:=zRt f u.d.okH a4;obtain⟨H5,e5,g5,s5,n5⟩:=stG f.ok (y:=v4) 1 [.ptr At 0,v4, .ptr Ad 0, .ptr As 0, .int .i64 txg] rfl (by omega) J g4.1.row.isCell;have a0:uT s l=putP s.k s.v l:=by simp only[uT,c7,if_true,hp]
   have h5:fG (.ptr Ad 0) .nP E3 H4 At M (H+200) W3 a1 q3 (putP s.k s.v l) T3:=by
    obtain⟨dr,es,c8,z1,z2,z3⟩:=u;exact⟨dr,es,c8,z1,z2.prs f,z3⟩
   refine⟨H5, ?_,E3,Ad,As,At,M,H+200,txg,la,is,V,W3,a1,q3,T3, ?_,⟨by omega,c3.nb.trans a9⟩,by omega,by omega,(c1.trans f).fresh s5 fun i a=>j i (.inr (.inr a)),b8⟩
   .simp(maxSteps:=999999)(disch:=omega) only[fR,eZ,b0,b2,b3,i2,b6,b1,b5,y0,b7,x0,y1,y2,e3,d5,d3,h4,e4,e5,VX,K4,J3,hi1]
   .rw[a0];exact Gst.note h5 (b9.prs u.d.okH f) c0 J s5 g5 g4.1
  .rw[if_neg hp]at e3 u;have d6: ¬((1:Nat):Int)=((0:Nat):Int):=by omega
   have a0:uT s l=l:=by simp only[uT,c7,if_true,hp,qD];rfl
   refine⟨H3, ?_,E3,Ad,As,At,M,H+200,txg,la,is,V,W3,a1,q3,T3, ?_,⟨by omega,c3.nb.trans a9⟩,by omega,by omega,c1,b8⟩
   .simp(maxSteps:=999999)(disch:=omega) only[fR,eZ,b0,b2,b3,i2,b6,b1,b5,y0,b7,x0,y1,y2,e3,d6,VX,K4,J3,hi1]
   .rw[a0];exact⟨u,b9,c0,lv,a4,a6⟩
 .have b7: ¬(s.kd:Int)=((0:Nat):Int):=by omega
  by_cases f4:s.kd=1
  .have c2:(s.kd:Int)=((1:Nat):Int):=by omega
   obtain⟨H3,E3,W3,T3,e3,t3,O,c3⟩:=zJ7 m n (by omega) hn (k:=s.k) w2.tx.d (by omega) (by omega);obtain⟨a1,q3,u⟩:=t3.x;obtain⟨b9,c0,a4,a6⟩:=w2.tree u O c3 a2 d2;have N3:=O.1.next
   have c1:Prs h H3:=d1.fresh O.1 fun i a=>j i (.inl a)
   have b8: ∀i,(W3 i\/V i\/i=A)->h.next<=i:=fun i a=>by
    rcases a with x | x | x
    .rcases O.2 i x with y | y
     .exact j i (.inl y)
     .omega
    .exact j i (.inr (.inl x))
    .exact j i (.inr (.inr x))
   have hd:=zF0 (k:=s.k) fun p hp=>(h3 p hp).1
   have h0:(if aY s.k l=0 then delP s.k l else l)=delP s.k l:=by
    by_cases e:aY s.k l=0
    .rw[if_pos e]
    .rw[if_neg e];have:(lookP s.k l).isSome=false:=by rw[<-hd];exact decide_eq_false (by omega)
     exact(del_none (look_not (by simpa using this))).symm
   rw[h0]at u;have g3:=(O.1.keep C l6 (fun H0=>z6 (.inl H0))).trans g2;obtain⟨_,d3,_⟩:=rd g3;obtain⟨_,d5,_⟩:=rg a4;obtain⟨H4,e4,f⟩:=zHc (dy (m+2)) n u.d.okH hs a6.row (by omega) (by omega) s.k;have J:=zRt f u.d.okH a4;obtain⟨_,h6,_⟩:=rg J;obtain⟨_,h7,_⟩:=rd (zRt f u.d.okH g3);obtain⟨H5,v5,e5,Y,g5,_⟩:=zAm (dy (m+2)) n f.ok (a6.prs f).row (by omega) (by omega) s.k;rw[Nd.filt_del s.k hs]at g5;have a7:=zRt Y f.ok J;obtain⟨H6,e6,g6,N,n6⟩:=stG Y.ok (y:=v5) 1 [.ptr At 0,v5, .ptr Ad 0, .ptr As 0, .int .i64 txg] rfl (by omega) a7 g5.1.row.isCell;have a0:uT s l=delP s.k l:=by simp only[uT,f4,if_true];rfl
   have c4:fG (.ptr Ad 0) .nP E3 H5 At M (H+200) W3 a1 q3 (delP s.k l) T3:=by
    obtain⟨dr,es,c8,z1,z2,z3⟩:=u;exact⟨dr,es,c8,z1,z2.prs (f.trans Y),z3⟩
   have h8:(!(decide (((aY s.k l:Nat):Int)=((0:Nat):Int))==(lookP s.k l).isSome))=false:=by rw[hd];simp
   have h9: ∀K:Rs,chk (some lv) lv K=K:=fun K=>kW rfl (kK a6.row)
   have i0: ∀K:Rs,chk (some (S s.k)) (S s.k) K=K:=fun K=>kW rfl (by simp[aveq,S])
   have i3: ∀x y:Rs,cnd (.bool false) x y=y:=fun _ _=>rfl
   have d6: ¬((1:Nat):Int)=((0:Nat):Int):=by omega
   refine⟨H6, ?_,E3,Ad,As,At,M,H+200,txg,la,is,V,W3,a1,q3,T3, ?_,⟨by omega,c3.nb.trans a9⟩,by omega,by omega,((c1.trans f).trans Y).fresh N fun i a=>j i (.inr (.inr a)),b8⟩
   .simp(maxSteps:=999999)(disch:=omega) only[fR,eZ,b0,b2,b3,i2,b6,b1,b5,y0,c2,d6,x0,y1,x1,e3,d5,d3,h9,i0,e4,VB,h8,i3,h6,h7,e5,e6,zAI,K4,J3,hi1]
   .rw[a0];exact Gst.note c4 (b9.prs u.d.okH (f.trans Y)) c0 a7 N g6 g5.1
  .have c2: ¬(s.kd:Int)=((1:Nat):Int):=by omega
   have a0:uT s l=l:=by simp only[uT,c7,f4,qD]
   have f5:(txg:Int)+((1:Nat):Int)=((txg+1:Nat):Int):=by omega
   obtain⟨H3,e3,g3,s3,n3⟩:=stG f3 (y:= .int .i64 (txg+1:Nat)) 4 [.ptr At 0,lv, .ptr Ad 0, .ptr As 0, .int .i64 (txg+1:Nat)] rfl (by omega) a2 rfl;have w3:Gst E H3 A Ad As At M H (txg+1) la is V W root q l T:=Gst.note w2.tx w2.ds w2.us a2 s3 g3 d2;obtain⟨H4,A7,b4,f,g4,m4,n4⟩:=box s3.ok (.cells [.int .i64 (0:Nat), .int .i64 (0:Nat), .int .u64 (0:Nat)] 42 1 false);have f1:bxV 42 (.agg [.int .i64 (0:Nat), .int .i64 (0:Nat), .int .u64 (0:Nat)])=some (.cells [.int .i64 (0:Nat), .int .i64 (0:Nat), .int .u64 (0:Nat)] 42 1 false,fun Gd=> .ptr Gd 0):=rfl;have Z:=w3.prs f;have J:=zRt f s3.ok g3;have N3:=s3.next;have N4:=f.next
   have f6:Prs h H4:=(d1.fresh s3 fun i a=>j i (.inr (.inr a))).trans f;have l7:A7<H4.next:=f.ok.lt g4
   have z7: ¬(W A7\/V A7):=fun H0=>by
    rcases H0 with H0 | H0
    .have:=w3.tx.d.lt A7 H0;omega
    .have:=w3.ds.lt s3.ok A7 H0;omega
   have d7:A7≠A:=fun e=>by rw[e,J]at g4;simp at g4
   obtain⟨_,_,_,_,_⟩:=rg g3;obtain⟨d4,_,_,f7,f8⟩:=rg g3;have k6:=(rg J).1;obtain⟨k8,c9,h1⟩:=Z.gG;have f9:GrP H4 lv l:=by
    rw[J]at c9;simp only[zB,AObj.cells.injEq,y8]at c9;rw[c9.1.2.1];exact h1
   have i4: ¬(((0:Nat):Int)≠((0:Nat):Int)):=by omega
   have t30:((3:Nat):Int)≠((0:Nat):Int):=by omega
   have i5: ∀i,E.x i->i<H4.next:=by
    obtain⟨_,_,_,_,i6,_⟩:=Z.tx;exact i6.xl
   obtain⟨H5,⟨_,e5,Y⟩ | ⟨k9,c5,d8,la',V',a8,T',M',W',dr,e5,c4,i7,o5,a5,l0,l1⟩⟩:=zDT (m+2) n (by omega) (by omega) (txg:=txg+1) Z.tx Z.ds (fun r hr d9=>Z.us r (qU _ (hJ.2 ⟨hr,d9⟩))) (by omega) (by omega) (by omega)
   .obtain⟨H6,e6,g6,N,n6⟩:=jV Y.ok (zRt Y f.ok g4) (l':=[.int .i64 (0:Nat), .int .i64 (0:Nat), .int .u64 (0:Nat)]) rfl rfl;have e0:stN 3 (.ptr A7 0) (.agg [.int .i64 (0:Nat), .int .i64 (0:Nat), .int .u64 (0:Nat)]) H5=some (jQ,H6):=e6;refine⟨H6, ?_,E,Ad,As,At,M,H,txg+1,la,is,V,W,root,q,T, ?_,⟨by omega,a9⟩,by omega,by omega,(f6.trans Y).fresh N fun i a=>by omega,j⟩
    .simp(maxSteps:=999999)(disch:=omega) only[fR,eZ,b0,b2,b3,i2,b6,b1,b5,y0,b7,c2,x4,f5,e3,d4,f7,f8,f1,b4,e5,jN,nth,e0,t30,ne_eq,yD,if_true,J3,hi1]
    .rw[a0];exact(Z.prs Y).side (zRt Y f.ok g4) (fun _ _ H0=>by cases H0) z7 d7 N
   .obtain⟨k7,i8,l2⟩:=a5.keep (A:=A7) l7 z7;obtain⟨kG,zG,lG⟩:=a5.keep (A:=A) (f.ok.lt J) (fun H0=>by
     obtain⟨o1,o2⟩:=JJ Z.tx Z.ds J (.inr ⟨_,rfl⟩);rcases H0 with H0 | H0;exact o1 H0;exact o2 H0)
    have a7:=kG.trans J;have g5:=k7.trans g4;have g0:=c4.d.okH;have i9:=o5.used (fun r hr d9=>Z.us r (qU _ (hJ.2 ⟨hr,d9⟩)));have j0:GrP H5 lv l:=f9.mono a5.1 fun i a=>by
     obtain⟨kv,e,g,H0⟩:=kZ.get2 f9 a;obtain⟨y1,y2⟩:=JJ Z.tx Z.ds H0 (.inl ⟨_,_,_,rfl⟩);exact fun x=>by rcases x with x | x;exact y1 x;exact y2 x
    have w5:Gst { E with ws:=c5,dl:=[] } H5 A Ad As At M' H (txg+1) la' d8 V' W' a8 [] l T':=⟨c4,i7,fun r hr=>by rw[yB]at hr;exact(i9 r (hJ.1 hr).1).2,lv,a7,j0⟩;obtain⟨H6,e6,g6,N,n6⟩:=jV g0 g5 (l':=jS a8) rfl rfl;have e0:stN 3 (.ptr A7 0) (.agg (jS a8)) H5=some (jQ,H6):=e6;have w6:=w5.side g5 (fun _ _ H0=>by cases H0) i8 d7 N;obtain⟨H7,e7,p7⟩:=zEb (dy (m+2)) n w6.tx;have w7:=w6.prs p7;obtain⟨On,Nw,wv,dm,j1,_⟩:=id w7.ds;obtain⟨_,_,_,_,_,_,_,_,_,j2,_⟩:=w7.tx;obtain⟨H8,c6,M8,W8,e8,p8,j3,j4⟩:=zAq (dy (m+2)) n (by omega) (E:= { E with ws:=c5,dl:=[] }) p7.ok (Ad:=Ad) ⟨On,Nw,wv,dm,j1⟩ j2 (fun i a=>qG (i5 i a) (qN a5.1.next (qN N.next p7.next)))
    have w8:=w7.prs p8;have g7:H6.h.get A=_:=(N.keep A (g0.lt a7) (fun e=>d7 e.symm)).trans a7;have g8:=zRt p7 N.ok g7;have e1:=zRt p8 p7.ok g8;obtain⟨j5,_,j6,_,_⟩:=rg g7;obtain⟨_,_,j7,_,_⟩:=rg g8;obtain⟨l3,d0,h2⟩:=w8.gG;have j8:GrP H8 lv l:=by
     rw[e1]at d0;simp only[zB,AObj.cells.injEq,y8]at d0;rw[d0.1.2.1];exact h2
    obtain⟨H9,e9,g9,s9,n9⟩:=stG p8.ok (y:= .ptr c6 0) 0 [.ptr c6 0,lv, .ptr Ad 0, .ptr As 0, .int .i64 (txg+1:Nat)] rfl (by omega) e1 rfl;have w9:Gst { E with ws:=c5,dl:=[] } H9 A Ad As c6 M8 0 (txg+1) la' d8 V' W8 a8 [] l T':=Gst.note j3 w8.ds w8.us e1 s9 g9 j8;have j9: ∀K:Rs,chk (some (.ptr Ad 0)) (.ptr Ad 0) K=K:=fun K=>kW rfl (by simp[aveq])
    have N5:=a5.1.next;have N6:=N.next;have N7:=p7.next;have N8:=p8.next
    have k0:Prs h H5:=f6.fresh a5.1 fun i a=>j i (by rcases a with H0 | H0;exact .inl H0;exact .inr (.inl H0))
    have k1:Prs h H8:=((k0.fresh N fun i a=>by omega).trans p7).trans p8;refine⟨H9, ?_, { E with ws:=c5,dl:=[] },Ad,As,c6,M8,0,txg+1,la',d8,V',W8,a8,[],T',by rw[a0];exact w9,⟨by omega,a9⟩,by omega,by omega,k1.fresh s9 fun i a=>j i (.inr (.inr a)),fun i a=> ?_⟩
    .simp(maxSteps:=999999)(disch:=omega) only[fR,eZ,b0,b2,b3,i2,b6,b1,b5,y0,b7,c2,x4,f5,e3,d4,f7,f8,f1,b4,e5,jN,nth,e0,i4,j5,j6,e7,j7,j9,e8,e9,zAI,K4,J3,hi1]
    .rcases a with x | x | x
     .have:=j4 i x;omega
     .rcases a5.2 i (.inr x)with z | z
      .exact j i (by rcases z with H0 | H0;exact .inl H0;exact .inr (.inl H0))
      .omega
     .exact j i (.inr (.inr x))
theorem QT (f:h.ok)(P:Prs h L)(H:ld1 (.ptr A B) h=some p):ld1 (.ptr A B) L=some p:=by
 cases a:h.h.get A with
 | none=>simp[ld1,a]at H
 | some o=>rw[P.ld1 B (f.lt a) (fun p=>p)];exact H
def zBh (l:List Sw):Kvs:=l.foldl (fun kv s=>uT s kv) []
theorem grow_ok (m n:Nat)(hm:400000000<=m)(z:300000000<=n)(t:h.ok){l:List Sw}(j:SwR h p l)(hl:l.length<=100)(g:GS h A 0 [] L):
  ∃H',f64 (dy (m+2)) n [.ptr A 0,p] L=some (.bool true,H')/\GS h A l.length (zBh l) H':=by
 have C:=uF (b:=fR (dy (m+2)) n) l.length (fun i f H'=>f=[.ptr A 0,p, .int .i64 ((i:Nat):Int)]/\GS h A i (zBh (l.take i)) H') (fun i f H' hi ⟨u,g⟩=>by
  subst u;obtain⟨J,K,N⟩:=zFU m n hm z t j hi hl g;refine⟨_,J,K,rfl, ?_⟩;have:zBh (l.take (i+1))=uT l[i] (zBh (l.take i)):=by
   rw[zBh,qM hi,List.foldl_append];rfl
  rw[this];exact N) n _ L ⟨rfl,g⟩ (by omega)
 obtain⟨q,f,a,O,rfl,H0⟩:=C;rw[j9]at H0;have x:SwR a p l:=by
  obtain⟨_,_,_,_,_,_,_,_,_,_,_,_,_,_,_,_,_,_,H,_⟩:=H0;exact j.prs H
 have y:=x.lnSl;refine⟨a, ?_,H0⟩;have o:kJ (q+1) (fR (dy (m+2)) n) [.ptr A 0,p, .int .i64 l.length] a=some (.exit 0 [],a):=jW (by simp only[fR,eZ,y,y7]);simp(maxSteps:=999999)(disch:=omega) only[f64,eZ,O,o,zOr]
theorem GS.at {i:Nat}(g:GS h A i l L): ∃At Ad E M H W root q T lv,Eng.ld1 (.ptr A 0) L=some (.ptr At 0)/\Eng.ld1 (.ptr A 1) L=some lv/\fG (.ptr Ad 0) .nP E L At M H W root q l T/\H<=200*i/\GrP L lv l/\Srt l/\l.length<=i/\Prs h L:=by
 obtain⟨E,Ad,As,At,M,H,txg,la,is,V,W,root,q,T,w,hL,m,f,H0,j⟩:=g;obtain⟨lv,a,gl⟩:=w.gG;exact⟨At,Ad,E,M,H,W,root,q,T,lv,by rw[jM a];rfl,by rw[jM a];rfl,w.tx,hL.1,gl,w.srt.1,f,H0⟩
theorem zLn(t:fG (.ptr Y 0) .nP R h A B N w E V l e)(a6:R.dl.length<=1000000000):
  ∃H' a0 M' W',f28 D n [.ptr A 0] h=some (.ptr a0 0,H')/\Prs h H'/\fG (.ptr Y 0) .nP { R with x:=w} H' a0 M' N W' E V l e/\ ∀At,W' At->h.next<=At:=by
 obtain⟨z,es,p,hc,a,h2,h3,h4,h5,h6,hW⟩:=t;have O:=a.ok;have a7: ∀At,w At->At<h.next:=fun At f=>by
  rcases(hW At).1 f with rfl | rfl | Ad
  .exact O.lt a.gT
  .exact O.lt a.gM
  .exact a.dg.lt Ad
 obtain⟨a8,On,Nw,wv,ds,a9,dk⟩:=a.dk;obtain rfl:Y=a8:=by simpa using a9
 have r8:ldN 8 (.ptr A 0) h=some (.agg (wN (.ptr Y 0) .nP E B p z)):=by rw[jR a.gT];rfl
 have b0:=(kZ.row a.dg).isCell;have b2:jP (wN (.ptr Y 0) .nP E B p z)=true:=by simp only[jP,wN,b0,Bool.true_and,Bool.and_true];rfl
 obtain⟨H1,A1,b1,p1,g1,m1,n1⟩:=box O (.cells [.nP, .nP, .int .i64 (0:Nat), .int .i64 (0:Nat), .int .u64 (0:Nat), .nM, .int .u64 (0:Nat), .nS] 140 1 false);obtain⟨j,e2,g2,C,n2⟩:=jV p1.ok g1 (l':=wN (.ptr Y 0) .nP E B p z) rfl b2;have b3:stN 8 (.ptr A1 0) (.agg (wN (.ptr Y 0) .nP E B p z)) H1=some (jQ,j):=e2;have P2:Prs h j:=p1.fresh C fun At f=>by omega
 have N1:=p1.next;have N2:=C.next
 have a1:=a.prs P2;have J:Prs j (j.push (.map [10] es)):=(zRo C.ok).push _;have g3:=zRg j (.map [10] es);have n3:=zRh j (.map [10] es);have e3:m80 D n [.map B] j=some (.map j.next,j.push (.map [10] es)):=by
  obtain⟨t,ht⟩:=qQ.1 (Eng.T.set_some 40 j.h j.next (.map [10] es))
  simp only[m80,clnK,a1.gM,C.ok j.next (zM _),ht,kF,AH.push,y9]
 generalize j.push (.map [10] es)=H3 at J g3 n3 e3;obtain⟨m,b4⟩: ∃m,m=j.next:=⟨_,rfl⟩
 rw[<-b4]at g3 e3;have N3:=J.next
 have b5:=zRt J C.ok g2;obtain⟨H4,e4,g4,S,n4⟩:=xM J.ok b5 (o:=5) (x:= .map m) rfl (by simp[wN]);have N4:=S.next
 have P4:Prs h H4:=(P2.trans J).fresh S fun At f=>by omega
 have a2:=a.prs P4;obtain⟨u,H5,e5,K,a3,f5⟩:=zJk D n P4.ok a2.dg a6;have N5:=K.next
 have b6:=zRt K S.ok g4;have a5:=(kZ.row a3).isCell;obtain⟨L,e6,g6,s6,n6⟩:=xM K.ok b6 (o:=7) (x:=u) a5 (by simp[wN]);have M:Prs h L:=(P4.trans K).fresh s6 fun At f=>by omega
 have b7:L.h.get m=some (.map [10] es):=by
  rw[s6.keep _ (by omega) (by omega),K.keep _ (by omega) (fun x=>x),S.keep _ (by omega) (by omega)];exact g3
 have b9:A1<H1.next:=n1
 have b8:L.h.get A1=some (.cells (wN (.ptr Y 0) .nP E m p u) 140 1 false):=g6;have nA: ∀At,Blk u At->At≠A1:=fun At f=>by have:=f5 At f;omega
 refine⟨L,A1,m,fun At=>At=A1\/At=m\/Blk u At, ?_,M,⟨u,es,p,hc,⟨M.ok,b8,b7,a.pq.frame fun l _ nd hn=>hn.prs M,⟨Y,On,Nw,wv,ds,rfl,dk.prs O M⟩,a.cn,a3.mono s6 nA,fun l Z At f y=> ?_,a.few,fun At f=>qG (a7 At f) M.next⟩,h2,h3,h4,h5,h6,fun At=>Iff.rfl⟩,fun At f=> ?_⟩
 .have l5:ld1 (.ptr A 5) j=some (.map B):=by rw[jM a1.gT];rfl
  have l7:ld1 (.ptr A 7) H4=some z:=by rw[jM a2.gT];rfl
  simp(maxSteps:=999999)(disch:=omega) only[f28,eZ,cq,r8,b1,b3,l5,e3,e4,l7,e5,e6]
 .rcases y with y | y
  .have:=a.hold l Z At f;have:=f5 At y;omega
  .obtain⟨nd,a4⟩:=a.pq.node l Z;rcases(hW At).1 y with rfl | rfl | Ad
   .exact a4.nblk a.gT (.inl ⟨_,_,_,_,rfl,fun _ _ H=>by cases H⟩) f
   .exact a4.nblk a.gM (.inr (.inl ⟨_,_,rfl⟩)) f
   .exact a.ds l Z At f (.inl Ad)
 .rcases f with Ad | Ad | Ad
  .omega
  .omega
  .have:=f5 At Ad;omega
def GU (H0:AH)(U:Nat->Prop)(ws0:Ws)(is0:Nat->Nat)(xx:Nat->Prop)(Ad As Gd i:Nat)(kv:Kvs)(H:AH):Prop:= ∃E At M L txg la is V W root q T,Gst E H Gd Ad As At M L txg la is V W root q kv T/\(L<=200*i/\E.nb=1024/\E.x=xx)/\txg<=i/\kv.length<=i/\Stp U H0 H/\(∀B,(W B\/V B\/B=Gd)->H0.next<=B\/U B)/\ ∀a,is0 a≠0->is a≠0/\blkAt a E.ws=blkAt a ws0
theorem zDs (m n:Nat)(hm:400000000<=m)(hn:300000000<=n){Ad:Nat}{v:AV}{kv:List Sw}(hv: ∀ {L},Stp w h L->SwR L v kv)(hj:Y<kv.length)(hl:kv.length<=1000)(hi:N<200)(g:GU h w u J q Ad A B N l L):
  ∃H',fR (dy (m+2)) n [.ptr B 0,v, .int .i64 Y] L=some (.norm [.ptr B 0,v, .int .i64 (Y+1:Nat)],H')/\GU h w u J q Ad A B (N+1) (uT kv[Y] l) H':=by
 obtain⟨E,At,M,H,txg,la,is,V,W,root,xx,T,U,⟨hL,b0,b2⟩,k6,k8,p0,C,a0⟩:=g;have f5:SwR L v kv:=hv p0;have b3:=f5.lnSl;have b5:(Y:Int)< (kv.length:Int):=by omega
 have hi1:(Y:Int)+((1:Nat):Int)=((Y+1:Nat):Int):=by omega
 obtain⟨As,o,i1,i2,_,_,_⟩:=f5.at hj;have b6:=i1 .i64 _ rfl;generalize kv[Y]=s at*
 obtain⟨hs,h6⟩:=U.srt;have hk:=U.tx.d.okH;obtain⟨H1,i,b1,p1,g1,m1,n1⟩:=box hk (.cells [.int .u8 (0:Nat), .str 0 0, .str 0 0] 113 1 false);obtain⟨H2,e2,g2,s2,n2⟩:=jV p1.ok g1 (l':=swV s) rfl rfl;have b7:stN 3 (.ptr i 0) (.agg (swV s)) H1=some (jQ,H2):=e2;have b8:bxV 113 (.agg [.int .u8 (0:Nat), .str 0 0, .str 0 0])=some (.cells [.int .u8 (0:Nat), .str 0 0, .str 0 0] 113 1 false,fun As=> .ptr As 0):=rfl;have P2:Prs L H2:=p1.fresh s2 fun Gd f=>by omega
 have N1:=p1.next;have N2:=s2.next;have N0:=p0.next
 have w2:=U.prs P2;have d4:Stp w h H2:=p0.trans (zRv P2);have f6:=P2.ok;obtain⟨lv,a4,d5⟩:=w2.gG;have l6:i<H2.next:=f6.lt g2
 have z6: ¬(W i\/V i):=fun H0=>by
  rcases H0 with H0 | H0
  .have:=U.tx.d.lt i H0;omega
  .have:=U.ds.lt hk i H0;omega
 have rd: ∀ {G:AH},G.h.get i=some (.cells (swV s) 113 1 false)->Eng.ld1 (.ptr i 0) G=some (.int .u8 s.kd)/\Eng.ld1 (.ptr i 1) G=some (S s.k)/\Eng.ld1 (.ptr i 2) G=some (S s.v):=fun H0=>⟨by rw[jM H0];rfl,by rw[jM H0];rfl,by rw[jM H0];rfl⟩
 obtain⟨y0,y1,y2⟩:=rd g2;have rg: ∀ {G:AH} {at_:Nat} {lv:AV} {t:Nat},G.h.get B=some (.cells [.ptr at_ 0,lv, .ptr Ad 0, .ptr A 0, .int .i64 t] 104 1 false)->Eng.ld1 (.ptr B 0) G=some (.ptr at_ 0)/\Eng.ld1 (.ptr B 1) G=some lv/\Eng.ld1 (.ptr B 2) G=some (.ptr Ad 0)/\Eng.ld1 (.ptr B 3) G=some (.ptr A 0)/\Eng.ld1 (.ptr B 4) G=some (.int .i64 t):=fun H0=>⟨by rw[jM H0];rfl,by rw[jM H0];rfl,by rw[jM H0];rfl,by rw[jM H0];rfl,by rw[jM H0];rfl⟩
 obtain⟨x0,x1,_,x3,x4⟩:=rg a4;have k5:=zBi s l hs;have nG:i≠B:=fun e=>by rw[e,a4]at g2;simp[swV]at g2
 by_cases d0:s.kd=0
 .have b9:(s.kd:Int)=((0:Nat):Int):=by omega
  obtain⟨H3,E3,W3,T3,e3,t3,Z,c3⟩:=zHz m n (by omega) hn (k:=s.k) (v:=s.v) w2.tx.d (by omega) (by omega);obtain⟨a2,q3,is0⟩:=t3.x;obtain⟨c1,c2,a6,a7⟩:=w2.tree is0 Z c3 a4 d5;have c4: ∀a,J a≠0->is a≠0/\blkAt a E3.ws=blkAt a u:=fun a ha=>⟨(a0 a ha).1,by rw[c3.ws];exact(a0 a ha).2⟩
  have N3:=Z.1.next
  have c5:Stp w h H3:=zRp d4 Z.1 fun Gd f=>C Gd (.inl f)
  have c0: ∀Gd,(W3 Gd\/V Gd\/Gd=B)->h.next<=Gd\/w Gd:=fun Gd f=>by
   rcases f with x | x | x
   .rcases Z.2 Gd x with y | y
    .exact C Gd (.inl y)
    .exact .inl (by omega)
   .exact C Gd (.inr (.inl x))
   .exact C Gd (.inr (.inr x))
  by_cases hp:JG s.k s.v=true
  .rw[if_pos hp]at e3 is0;have g3:=(Z.1.keep i l6 (fun H0=>z6 (.inl H0))).trans g2;obtain⟨_,d6,h7⟩:=rd g3;obtain⟨d7,d8,_⟩:=rg a6;obtain⟨H4,v4,e4,ws0,g4⟩:=zHa (dy (m+2)) n is0.d.okH hs a7.row (by omega) (by omega) s.k s.v;have O:=zRt ws0 is0.d.okH a6;obtain⟨H5,e5,g5,s5,n5⟩:=stG ws0.ok (y:=v4) 1 [.ptr At 0,v4, .ptr Ad 0, .ptr A 0, .int .i64 txg] rfl (by omega) O g4.1.row.isCell;have a1:uT s l=putP s.k s.v l:=by simp only[uT,d0,if_true,hp]
   have h8:fG (.ptr Ad 0) .nP E3 H4 At M (H+200) W3 a2 q3 (putP s.k s.v l) T3:=by
    obtain⟨dr,es,d1,z1,z2,z3⟩:=is0;exact⟨dr,es,d1,z1,z2.prs ws0,z3⟩
   refine⟨H5, ?_,E3,At,M,H+200,txg,la,is,V,W3,a2,q3,T3, ?_,⟨by omega,c3.nb.trans b0,c3.xx.trans b2⟩,by omega,by omega,zRp (c5.trans (zRv ws0)) s5 fun Gd f=>C Gd (.inr (.inr f)),c0,c4⟩
   .simp(maxSteps:=999999)(disch:=omega) only[fR,eZ,b3,b5,b6,i2,b8,b1,b7,y0,b9,x0,y1,y2,e3,d8,d6,h7,e4,e5,VX,K4,J3,hi1]
   .rw[a1];exact Gst.note h8 (c1.prs is0.d.okH ws0) c2 O s5 g5 g4.1
  .rw[if_neg hp]at e3 is0;have d9: ¬((1:Nat):Int)=((0:Nat):Int):=by omega
   have a1:uT s l=l:=by simp only[uT,d0,if_true,hp,qD];rfl
   refine⟨H3, ?_,E3,At,M,H+200,txg,la,is,V,W3,a2,q3,T3, ?_,⟨by omega,c3.nb.trans b0,c3.xx.trans b2⟩,by omega,by omega,c5,c0,c4⟩
   .simp(maxSteps:=999999)(disch:=omega) only[fR,eZ,b3,b5,b6,i2,b8,b1,b7,y0,b9,x0,y1,y2,e3,d9,VX,K4,J3,hi1]
   .rw[a1];exact⟨is0,c1,c2,lv,a6,a7⟩
 .have b9: ¬(s.kd:Int)=((0:Nat):Int):=by omega
  by_cases f7:s.kd=1
  .have c6:(s.kd:Int)=((1:Nat):Int):=by omega
   obtain⟨H3,E3,W3,T3,e3,t3,Z,c3⟩:=zJ7 m n (by omega) hn (k:=s.k) w2.tx.d (by omega) (by omega);obtain⟨a2,q3,is0⟩:=t3.x;obtain⟨c1,c2,a6,a7⟩:=w2.tree is0 Z c3 a4 d5;have c4: ∀a,J a≠0->is a≠0/\blkAt a E3.ws=blkAt a u:=fun a ha=>⟨(a0 a ha).1,by rw[c3.ws];exact(a0 a ha).2⟩
   have N3:=Z.1.next
   have c5:Stp w h H3:=zRp d4 Z.1 fun Gd f=>C Gd (.inl f)
   have c0: ∀Gd,(W3 Gd\/V Gd\/Gd=B)->h.next<=Gd\/w Gd:=fun Gd f=>by
    rcases f with x | x | x
    .rcases Z.2 Gd x with y | y
     .exact C Gd (.inl y)
     .exact .inl (by omega)
    .exact C Gd (.inr (.inl x))
    .exact C Gd (.inr (.inr x))
   have hd:=zF0 (k:=s.k) fun p hp=>(h6 p hp).1
   have h3:(if aY s.k l=0 then delP s.k l else l)=delP s.k l:=by
    by_cases e:aY s.k l=0
    .rw[if_pos e]
    .rw[if_neg e];have:(lookP s.k l).isSome=false:=by rw[<-hd];exact decide_eq_false (by omega)
     exact(del_none (look_not (by simpa using this))).symm
   rw[h3]at is0;have g3:=(Z.1.keep i l6 (fun H0=>z6 (.inl H0))).trans g2;obtain⟨_,d6,_⟩:=rd g3;obtain⟨_,d8,_⟩:=rg a6;obtain⟨H4,e4,ws0⟩:=zHc (dy (m+2)) n is0.d.okH hs a7.row (by omega) (by omega) s.k;have O:=zRt ws0 is0.d.okH a6;obtain⟨_,h9,_⟩:=rg O;obtain⟨_,i0,_⟩:=rd (zRt ws0 is0.d.okH g3);obtain⟨H5,v5,e5,p5,g5,_⟩:=zAm (dy (m+2)) n ws0.ok (a7.prs ws0).row (by omega) (by omega) s.k;rw[Nd.filt_del s.k hs]at g5;have a8:=zRt p5 ws0.ok O;obtain⟨H6,e6,g6,j,n6⟩:=stG p5.ok (y:=v5) 1 [.ptr At 0,v5, .ptr Ad 0, .ptr A 0, .int .i64 txg] rfl (by omega) a8 g5.1.row.isCell;have a1:uT s l=delP s.k l:=by simp only[uT,f7,if_true];rfl
   have c7:fG (.ptr Ad 0) .nP E3 H5 At M (H+200) W3 a2 q3 (delP s.k l) T3:=by
    obtain⟨dr,es,d1,z1,z2,z3⟩:=is0;exact⟨dr,es,d1,z1,z2.prs (ws0.trans p5),z3⟩
   have i3:(!(decide (((aY s.k l:Nat):Int)=((0:Nat):Int))==(lookP s.k l).isSome))=false:=by rw[hd];simp
   have i4: ∀K:Rs,chk (some lv) lv K=K:=fun K=>kW rfl (kK a7.row)
   have i5: ∀K:Rs,chk (some (S s.k)) (S s.k) K=K:=fun K=>kW rfl (by simp[aveq,S])
   have i6: ∀x y:Rs,cnd (.bool false) x y=y:=fun _ _=>rfl
   have d9: ¬((1:Nat):Int)=((0:Nat):Int):=by omega
   refine⟨H6, ?_,E3,At,M,H+200,txg,la,is,V,W3,a2,q3,T3, ?_,⟨by omega,c3.nb.trans b0,c3.xx.trans b2⟩,by omega,by omega,zRp ((c5.trans (zRv ws0)).trans (zRv p5)) j fun Gd f=>C Gd (.inr (.inr f)),c0,c4⟩
   .simp(maxSteps:=999999)(disch:=omega) only[fR,eZ,b3,b5,b6,i2,b8,b1,b7,y0,c6,d9,x0,y1,x1,e3,d8,d6,i4,i5,e4,VB,i3,i6,h9,i0,e5,e6,zAI,K4,J3,hi1]
   .rw[a1];exact Gst.note c7 (c1.prs is0.d.okH (ws0.trans p5)) c2 a8 j g6 g5.1
  .have c6: ¬(s.kd:Int)=((1:Nat):Int):=by omega
   have a1:uT s l=l:=by simp only[uT,d0,f7,qD]
   have f8:(txg:Int)+((1:Nat):Int)=((txg+1:Nat):Int):=by omega
   obtain⟨H3,e3,g3,s3,n3⟩:=stG f6 (y:= .int .i64 (txg+1:Nat)) 4 [.ptr At 0,lv, .ptr Ad 0, .ptr A 0, .int .i64 (txg+1:Nat)] rfl (by omega) a4 rfl;have w3:Gst E H3 B Ad A At M H (txg+1) la is V W root xx l T:=Gst.note w2.tx w2.ds w2.us a4 s3 g3 d5;obtain⟨H4,A7,b4,ws0,g4,m4,n4⟩:=box s3.ok (.cells [.int .i64 (0:Nat), .int .i64 (0:Nat), .int .u64 (0:Nat)] 42 1 false);have f4:bxV 42 (.agg [.int .i64 (0:Nat), .int .i64 (0:Nat), .int .u64 (0:Nat)])=some (.cells [.int .i64 (0:Nat), .int .i64 (0:Nat), .int .u64 (0:Nat)] 42 1 false,fun As=> .ptr As 0):=rfl;have w4:=w3.prs ws0;have O:=zRt ws0 s3.ok g3;have N3:=s3.next;have N4:=ws0.next
   have f9:Stp w h H4:=(zRp d4 s3 fun Gd f=>C Gd (.inr (.inr f))).trans (zRv ws0);have l7:A7<H4.next:=ws0.ok.lt g4
   have z7: ¬(W A7\/V A7):=fun H0=>by
    rcases H0 with H0 | H0
    .have:=w3.tx.d.lt A7 H0;omega
    .have:=w3.ds.lt s3.ok A7 H0;omega
   have e0:A7≠B:=fun e=>by rw[e,O]at g4;simp at g4
   obtain⟨_,_,_,_,_⟩:=rg g3;obtain⟨d7,_,_,g0,g7⟩:=rg g3;have k9:=(rg O).1;obtain⟨l0,d2,h4⟩:=w4.gG;have g8:GrP H4 lv l:=by
    rw[O]at d2;simp only[zB,AObj.cells.injEq,y8]at d2;rw[d2.1.2.1];exact h4
   have i7: ¬(((0:Nat):Int)≠((0:Nat):Int)):=by omega
   have t30:((3:Nat):Int)≠((0:Nat):Int):=by omega
   have i8: ∀Gd,E.x Gd->Gd<H4.next:=by
    obtain⟨_,_,_,_,i9,_⟩:=w4.tx;exact i9.xl
   obtain⟨H5,⟨_,e5,p5⟩ | ⟨l1,c8,e1,la',V',a9,T',M',W',dr,e5,c7,j0,o5,a5,l2,l3⟩⟩:=zDT (m+2) n (by omega) (by omega) (txg:=txg+1) w4.tx w4.ds (fun r hr f1=>w4.us r (qU _ (hJ.2 ⟨hr,f1⟩))) (by omega) (by omega) (by omega)
   .obtain⟨H6,e6,g6,j,n6⟩:=jV p5.ok (zRt p5 ws0.ok g4) (l':=[.int .i64 (0:Nat), .int .i64 (0:Nat), .int .u64 (0:Nat)]) rfl rfl;have f2:stN 3 (.ptr A7 0) (.agg [.int .i64 (0:Nat), .int .i64 (0:Nat), .int .u64 (0:Nat)]) H5=some (jQ,H6):=e6;refine⟨H6, ?_,E,At,M,H,txg+1,la,is,V,W,root,xx,T, ?_,⟨by omega,b0,b2⟩,by omega,by omega,zRp (f9.trans (zRv p5)) j fun Gd f=> .inl (by omega),C,a0⟩
    .simp(maxSteps:=999999)(disch:=omega) only[fR,eZ,b3,b5,b6,i2,b8,b1,b7,y0,b9,c6,x4,f8,e3,d7,g0,g7,f4,b4,e5,jN,nth,f2,t30,ne_eq,yD,if_true,J3,hi1]
    .rw[a1];exact(w4.prs p5).side (zRt p5 ws0.ok g4) (fun _ _ H0=>by cases H0) z7 e0 j
   .obtain⟨k7,j1,l4⟩:=a5.keep (A:=A7) l7 z7;obtain⟨kG,zG,lG⟩:=a5.keep (A:=B) (ws0.ok.lt O) (fun H0=>by
     obtain⟨o1,o2⟩:=JJ w4.tx w4.ds O (.inr ⟨_,rfl⟩);rcases H0 with H0 | H0;exact o1 H0;exact o2 H0)
    have a8:=kG.trans O;have g5:=k7.trans g4;have h0:=c7.d.okH;have j2:=o5.used (fun r hr f1=>w4.us r (qU _ (hJ.2 ⟨hr,f1⟩)));have j3:GrP H5 lv l:=g8.mono a5.1 fun Gd f=>by
     obtain⟨kv,e,g,H0⟩:=kZ.get2 g8 f;obtain⟨y1,y2⟩:=JJ w4.tx w4.ds H0 (.inl ⟨_,_,_,rfl⟩);exact fun x=>by rcases x with x | x;exact y1 x;exact y2 x
    have w5:Gst { E with ws:=c8,dl:=[] } H5 B Ad A At M' H (txg+1) la' e1 V' W' a9 [] l T':=⟨c7,j0,fun r hr=>by rw[yB]at hr;exact(j2 r (hJ.1 hr).1).2,lv,a8,j3⟩;obtain⟨H6,e6,g6,j,n6⟩:=jV h0 g5 (l':=jS a9) rfl rfl;have f2:stN 3 (.ptr A7 0) (.agg (jS a9)) H5=some (jQ,H6):=e6;have w6:=w5.side g5 (fun _ _ H0=>by cases H0) j1 e0 j;obtain⟨H7,e7,p7⟩:=zEb (dy (m+2)) n w6.tx;have w7:=w6.prs p7;obtain⟨On,Nw,wv,dm,j4,_⟩:=id w7.ds;obtain⟨_,_,_,_,_,_,_,_,_,j5,_⟩:=w7.tx;obtain⟨H8,c9,M8,W8,e8,p8,j6,j7⟩:=zAq (dy (m+2)) n (by omega) (E:= { E with ws:=c8,dl:=[] }) p7.ok (Ad:=Ad) ⟨On,Nw,wv,dm,j4⟩ j5 (fun Gd f=>qG (i8 Gd f) (qN a5.1.next (qN j.next p7.next)))
    have w8:=w7.prs p8;have h1:H6.h.get B=_:=(j.keep B (h0.lt a8) (fun e=>e0 e.symm)).trans a8;have h2:=zRt p7 j.ok h1;have f3:=zRt p8 p7.ok h2;obtain⟨j8,_,j9,_,_⟩:=rg h1;obtain⟨_,_,k0,_,_⟩:=rg h2;obtain⟨l5,d3,h5⟩:=w8.gG;have k1:GrP H8 lv l:=by
     rw[f3]at d3;simp only[zB,AObj.cells.injEq,y8]at d3;rw[d3.1.2.1];exact h5
    obtain⟨H9,e9,g9,s9,n9⟩:=stG p8.ok (y:= .ptr c9 0) 0 [.ptr c9 0,lv, .ptr Ad 0, .ptr A 0, .int .i64 (txg+1:Nat)] rfl (by omega) f3 rfl;have w9:Gst { E with ws:=c8,dl:=[] } H9 B Ad A c9 M8 0 (txg+1) la' e1 V' W8 a9 [] l T':=Gst.note j6 w8.ds w8.us f3 s9 g9 k1;have k2: ∀K:Rs,chk (some (.ptr Ad 0)) (.ptr Ad 0) K=K:=fun K=>kW rfl (by simp[aveq])
    have N5:=a5.1.next;have N6:=j.next;have N7:=p7.next;have N8:=p8.next
    have k3:Stp w h H5:=zRp f9 a5.1 fun Gd f=>C Gd (by rcases f with H0 | H0;exact .inl H0;exact .inr (.inl H0))
    have k4:Stp w h H8:=((zRp k3 j fun Gd f=> .inl (by omega)).trans (zRv p7)).trans (zRv p8);refine⟨H9, ?_, { E with ws:=c8,dl:=[] },c9,M8,0,txg+1,la',e1,V',W8,a9,[],T',by rw[a1];exact w9,⟨by omega,b0,b2⟩,by omega,by omega,zRp k4 s9 fun Gd f=>C Gd (.inr (.inr f)),fun Gd f=> ?_,fun a ha=>⟨o5.nz (a0 a ha).1,(o5.bk a (a0 a ha).1).trans (a0 a ha).2⟩⟩
    .simp(maxSteps:=999999)(disch:=omega) only[fR,eZ,b3,b5,b6,i2,b8,b1,b7,y0,b9,c6,x4,f8,e3,d7,g0,g7,f4,b4,e5,jN,nth,f2,i7,j8,j9,e7,k0,k2,e8,e9,zAI,K4,J3,hi1]
    .rcases f with x | x | x
     .exact .inl (by have:=j7 Gd x;omega)
     .rcases a5.2 Gd (.inr x)with z | z
      .exact C Gd (by rcases z with H0 | H0;exact .inl H0;exact .inr (.inl H0))
      .exact .inl (by omega)
     .exact C Gd (.inr (.inr x))
section
variable {H0:AH}{U:Nat->Prop}{ws0:Ws}{is0:Nat->Nat}{xx:Nat->Prop}{Ad As Gd i:Nat}
theorem GU.prs {H H':AH}{kv:Kvs}(g:GU H0 U ws0 is0 xx Ad As Gd i kv H)(p:Prs H H'):GU H0 U ws0 is0 xx Ad As Gd i kv H':=by
 obtain⟨E,At,M,L,txg,la,is,V,W,root,q,T,w,a,b,c,d,e⟩:=g;exact⟨E,At,M,L,txg,la,is,V,W,root,q,T,w.prs p,a,b,c,d.trans (zRv p),e⟩
def bJ (kv:Kvs)(l:List Sw):Kvs:=l.foldl (fun kv s=>uT s kv) kv
theorem zEH (m n:Nat)(hm:400000000<=m)(C:300000000<=n){H:AH}{kv:List Sw}(o: ∀ {H},Stp U H0 H->SwR H p kv)(hl:i+kv.length<=200)(g:GU H0 U ws0 is0 xx Ad As Gd i l H):
  ∃H',f64 (dy (m+2)) n [.ptr Gd 0,p] H=some (.bool true,H')/\GU H0 U ws0 is0 xx Ad As Gd (i+kv.length) (bJ l kv) H':=by
 have J:=uF (b:=fR (dy (m+2)) n) kv.length (fun j f H'=>f=[.ptr Gd 0,p, .int .i64 ((j:Nat):Int)]/\GU H0 U ws0 is0 xx Ad As Gd (i+j) (bJ l (kv.take j)) H') (fun j f H' t ⟨x,g⟩=>by
  subst x;obtain⟨K,N,O⟩:=zDs m n hm C o t (by omega) (by omega) g;refine⟨_,K,N,rfl, ?_⟩;have:bJ l (kv.take (j+1))=uT kv[j] (bJ l (kv.take j)):=by
   rw[bJ,qM t,List.foldl_append];rfl
  rw[this];exact O) n _ H ⟨rfl,g⟩ (by omega)
 obtain⟨q,f,a,S,rfl,h⟩:=J;rw[j9]at h;have y:SwR a p kv:=by
  obtain⟨_,_,_,_,_,_,_,_,_,_,_,_,_,_,_,_,v,_⟩:=h;exact o v
 have z:=y.lnSl;refine⟨a, ?_,h⟩;have u:kJ (q+1) (fR (dy (m+2)) n) [.ptr Gd 0,p, .int .i64 kv.length] a=some (.exit 0 [],a):=jW (by simp only[fR,eZ,z,y7]);simp(maxSteps:=999999)(disch:=omega) only[f64,eZ,S,u,zOr]
theorem GU.from' (g:GU h U ws0 is0 xx Ad As Gd i l L)(p:Prs H0 h)(f: ∀B,U B->H0.next<=B):GU H0 (fun _=>False) [] (fun _=>0) xx Ad As Gd i l L:=by
 obtain⟨E,At,M,H,txg,la,is,V,W,root,q,T,w,a,b,c,d,e,_⟩:=g;exact⟨E,At,M,H,txg,la,is,V,W,root,q,T,w,a,b,c,Stp.fresh p d f,fun B j=> .inl (by
  rcases e B j with x | x
  .have:=p.next;omega
  .exact f B x),fun a m=>absurd rfl m⟩
end
theorem BU (m n:Nat)(hm:400000000<=m)(K:300000000<=n){H:AH}{xx:Nat->Prop}(o:H.ok)(q:Dsk H A B 1024 u N J w)(la: ∀As,xx As->As<H.next){v:AV}{l:List Sw}(O: ∀ {H'},Stp w H H'->SwR H' v l)(hl:l.length<=200):
  ∃H' Gd,f63 (dy (m+2)) n [.ptr A 0, .ptr B 0,v] H=some (.tuple [.ptr Gd 0, .bool true],H')/\GU H w u J xx A B Gd l.length (bJ [] l) H':=by
 obtain⟨S,Y,wv,dm,Z,_⟩:=id q;obtain⟨H4,At,M,W,e4,f,tx,y⟩:=zAq (dy (m+2)) n (by omega) (E:=⟨1024,u,[],xx⟩) o (p:=pZ) (kv:=[]) (T:=[]) ⟨S,Y,_,_,Z⟩ (.inl ⟨rfl,rfl,rfl⟩) la;obtain⟨h,Gd,b5,t,g5,m5,n5⟩:=box f.ok (.cells [.ptr At 0, .nS, .ptr A 0, .ptr B 0, .int .i64 (0:Nat)] 104 1 false);have N4:=f.next
 have j:=f.trans t;have z:fG (.ptr A 0) .nP ⟨1024,u,[],xx⟩ h At M 0 W pZ [] [] []:=by
  obtain⟨dr,es,x,h1,h2,h3⟩:=tx;exact⟨dr,es,x,h1,h2.prs t,h3⟩
 have V:Gst ⟨1024,u,[],xx⟩ h Gd A B At M 0 0 N J w W pZ [] [] []:=⟨z,q.prs o j,by simp[dsk],⟨.nS,g5, .inl (zRw ..)⟩⟩;obtain⟨H6,e6,ws⟩:=zEH m n hm K O (i:=0) (by omega) (Gd:=Gd) (H:=h) ⟨⟨1024,u,[],xx⟩,At,M,0,0,N,J,w,W,pZ,[],[],V,⟨by omega,rfl,rfl⟩,by omega,by simp,zRv j,fun As hB=>by
  rcases hB with e | e | e
  .exact .inl (y As e)
  .exact .inr e
  .exact .inl (by omega),fun a ha=>⟨ha,rfl⟩⟩
 rw[yZ]at ws;have C: ¬(((0:Nat):Int)≠((0:Nat):Int)):=by omega
 have bz:vJ [(0,1),(1,1),(2,1)] [.int .i64 (0:Nat), .int .i64 (0:Nat), .int .u64 (0:Nat)] []=some (.agg (jS pZ)):=rfl;have bs:vJ [(0,1),(1,1),(2,1),(3,1),(4,1)] [.nP, .nS, .nP, .nP, .int .i64 (0:Nat)] [(0, .ptr At 0),(2, .ptr A 0),(3, .ptr B 0)]=some (.agg [.ptr At 0, .nS, .ptr A 0, .ptr B 0, .int .i64 (0:Nat)]):=rfl;have is:bxV 104 (.agg [.ptr At 0, .nS, .ptr A 0, .ptr B 0, .int .i64 (0:Nat)])=some (.cells [.ptr At 0, .nS, .ptr A 0, .ptr B 0, .int .i64 (0:Nat)] 104 1 false,fun Ad=> .ptr Ad 0):=rfl;refine⟨H6,Gd, ?_,ws⟩;simp(maxSteps:=999999)(disch:=omega) only[f63,eZ,bz,e4,jN,nth,C,bs,is,b5,e6]
theorem zHC (m n:Nat)(hm:400000000<=m)(t:300000000<=n)(u:h.ok){v:AV}{l:List Sw}(x:SwR h v l)(hl:l.length<=200):
  ∃H' Ad As Gd,f52 (dy (m+2)) n [v] h=some (.tuple [.ptr Gd 0, .bool true],H')/\GU h (fun _=>False) [] (fun _=>0) (fun _=>False) Ad As Gd l.length (bJ [] l) H':=by
 obtain⟨Z,Ad,y,H,z,a,m1,mO,mN,C⟩:=zLd (dy (m+2)) n u (nb:=1024) (by omega) (by omega);obtain⟨J,As,K,f,m2,N⟩:=zNv (dy (m+2)) n (by omega) a.ok (nb:=1024) (by omega) (by omega);have p:=C.prs a.ok f;have N1:=a.next;have N2:=f.next
 have O:Dsk J Ad As 1024 [] 0 zPh (fun B=>B=As\/B=Ad\/B=H\/Blk .nS B):=⟨y,H,_,_,p,N,fun B=>Iff.rfl,by decide,by decide,by decide, .inr rfl,⟨by decide,by decide⟩,by
  have:=zFa zPh 0 1024;show 0+cnt zPh 0 1024<=990000;omega⟩
 have o: ∀B,(B=As\/B=Ad\/B=H\/Blk .nS B)->h.next<=B:=fun B j=>by
  rcases j with e | e | e | e
  .omega
  .omega
  .omega
  .exact(zRu.1 e).elim
 obtain⟨S,Gd,T,Y⟩:=BU m n hm t f.ok O (xx:=fun _=>False) (fun B j=>j.elim) (v:=v) (l:=l) (fun s=>x.prs (Stp.fresh (a.trans f) s o)) hl;have q: ¬(((0:Nat):Int)≠((0:Nat):Int)):=by omega
 refine⟨S,Ad,As,Gd, ?_,Y.from' (a.trans f) o⟩;simp(maxSteps:=999999)(disch:=omega) only[f52,eZ,z,K,jN,nth,q,T,decide_false,Bool.or_false]
end Go.Eng.Sh
namespace Go.Bt
open Go.Nd (Str Kvs Srt lookP look_none)
open Go.Eng (ltS kN wX kB xK uH)
structure Cg where
 k:Str
 old:Str
 new:Str
 had:Bool
 has:Bool
def chg:Kvs->Kvs->List Cg
 | [],[]=>[]
 | (k,v)::a,[]=>⟨k,v,[],true,false⟩::chg a []
 | [],(j,w)::b=>⟨j,[],w,false,true⟩::chg [] b
 | (k,v)::a,(j,w)::b=>if ltS k j=true then⟨k,v,[],true,false⟩::chg a ((j,w)::b)else if ltS j k=true then⟨j,[],w,false,true⟩::chg ((k,v)::a) b else if v=w then chg a b else⟨k,v,w,true,true⟩::chg a b
termination_by a b=>a.length+b.length
def oneC (k:Str)(x y:Option Str):Cg:=⟨k,x.getD [],y.getD [],x.isSome,y.isSome⟩
def aQ {k:Str}(h: ∀p∈l,ltS k p.1=true):lookP k l=none:=
 look_none fun p hp e=>by have:=h p hp;rw[e,kB]at this;cases this
def K9 {k j:Str}{w:Str}(h:ltS k j=true)(hb:Srt ((j,w)::l)): ∀p∈(j,w)::l,ltS k p.1=true:=fun p hp=>by
 rcases zK.1 hp with rfl | hp
 .exact h
 .exact kN h (hb.1 p hp)
theorem aB: ∀(a b:Kvs),Srt a->Srt b-> ∀c:Cg,c∈chg a b↔(c=oneC c.k (lookP c.k a) (lookP c.k b)/\lookP c.k a≠lookP c.k b)
 | [],[],_,_,c=>by simp[chg,lookP]
 | (k,v)::a,[],ha,hb,c=>by
  have f:=aB a [] ha.2 hb c;have t:lookP k a=none:=aQ ha.1;rw[chg,zK,f];by_cases e:k=c.k
  .rw[<-e,t];simp only[lookP,if_true,ne_eq,not_true_eq_false,and_false,or_false,reduceCtorEq,yD,and_true];rfl
  .have m:lookP c.k ((k,v)::a)=lookP c.k a:=by rw[lookP,if_neg e]
   rw[m];refine⟨fun h=> ?_, .inr⟩;rcases h with h | h
   .exact absurd (by rw[h]) e
   .exact h
 | [],(j,w)::b,ha,hb,c=>by
  have f:=aB [] b ha hb.2 c;have t:lookP j b=none:=aQ hb.1;rw[chg,zK,f];by_cases e:j=c.k
  .rw[<-e,t];simp only[lookP,if_true,ne_eq,not_true_eq_false,and_false,or_false,reduceCtorEq,yD,and_true];rfl
  .have m:lookP c.k ((j,w)::b)=lookP c.k b:=by rw[lookP,if_neg e]
   rw[m];refine⟨fun h=> ?_, .inr⟩;rcases h with h | h
   .exact absurd (by rw[h]) e
   .exact h
 | (k,v)::a,(j,w)::b,ha,hb,c=>by
  have x:lookP k a=none:=aQ ha.1;have y:lookP j b=none:=aQ hb.1;rw[chg];split
  .rename_i o;have f:=aB a ((j,w)::b) ha.2 hb c;have z:lookP k ((j,w)::b)=none:=aQ (K9 o hb);rw[zK,f];by_cases e:k=c.k
   .rw[<-e,x,z];simp only[lookP,if_true,ne_eq,not_true_eq_false,and_false,or_false,reduceCtorEq,yD,and_true];rfl
   .have m:lookP c.k ((k,v)::a)=lookP c.k a:=by rw[lookP,if_neg e]
    rw[m];refine⟨fun h=> ?_, .inr⟩;rcases h with h | h
    .exact absurd (by rw[h]) e
    .exact h
  .rename_i o;split
   .rename_i p;have f:=aB ((k,v)::a) b ha hb.2 c;have C:lookP j ((k,v)::a)=none:=aQ (K9 p ha);rw[zK,f];by_cases e:j=c.k
    .rw[<-e,y,C];simp only[lookP,if_true,ne_eq,not_true_eq_false,and_false,or_false,reduceCtorEq,yD,and_true];rfl
    .have m:lookP c.k ((j,w)::b)=lookP c.k b:=by rw[lookP,if_neg e]
     rw[m];refine⟨fun h=> ?_, .inr⟩;rcases h with h | h
     .exact absurd (by rw[h]) e
     .exact h
   .rename_i p;obtain rfl:k=j:=xK (by simpa using o) (by simpa using p);have f:=aB a b ha.2 hb.2 c;by_cases e:k=c.k
    .have m:lookP c.k ((k,v)::a)=some v:=by rw[lookP,if_pos e]
     have u:lookP c.k ((k,w)::b)=some w:=by rw[lookP,if_pos e]
     rw[m,u];rw[<-e,x,y]at f;split
     .rename_i q;rw[f,q];simp
     .rename_i q;rw[zK,f,<-e];simp only[ne_eq,not_true_eq_false,and_false,or_false,zB,q,yD,and_true];rfl
    .have m:lookP c.k ((k,v)::a)=lookP c.k a:=by rw[lookP,if_neg e]
     have u:lookP c.k ((k,w)::b)=lookP c.k b:=by rw[lookP,if_neg e]
     rw[m,u];split
     .exact f
     .rw[zK,f];refine⟨fun h=> ?_, .inr⟩;rcases h with h | h
      .exact absurd (by rw[h]) e
      .exact h
termination_by a b=>a.length+b.length
def V3 {k:Str}(b:Srt l)(hb:Srt m)(o: ∀p∈l,ltS k p.1=true)(q: ∀p∈m,ltS k p.1=true): ∀c∈chg l m,ltS k c.k=true:=fun c t=>by
 have hm:=((aB l m b hb c).1 t).2;have key: ∀ {a:Kvs},(∀p∈a,ltS k p.1=true)->lookP c.k a≠none->ltS k c.k=true:=fun {a} h f=>by
  by_cases j: ∃p∈a,p.1=c.k
  .obtain⟨p,hp,e⟩:=j;rw[<-e];exact h p hp
  .exact absurd (look_none fun p hp e=>j ⟨p,hp,e⟩) f
 by_cases f:lookP c.k l=none
 .exact key q fun e=>hm (by rw[f,e])
 .exact key o f
theorem cZ: ∀(a b:Kvs),Srt a->Srt b->(chg a b).Pairwise fun x y=>ltS x.k y.k=true
 | [],[],_,_=>by rw[chg];exact List.Pairwise.nil
 | (k,v)::a,[],ha,hb=>by
  rw[chg];exact qV.2 ⟨V3 ha.2 hb ha.1 (by simp),cZ a [] ha.2 hb⟩
 | [],(j,w)::b,ha,hb=>by
  rw[chg];exact qV.2 ⟨V3 ha hb.2 (by simp) hb.1,cZ [] b ha hb.2⟩
 | (k,v)::a,(j,w)::b,ha,hb=>by
  rw[chg];split
  .rename_i f;exact qV.2 ⟨V3 ha.2 hb ha.1 (K9 f hb),cZ a _ ha.2 hb⟩
  .rename_i f;split
   .rename_i h;exact qV.2 ⟨V3 ha hb.2 (K9 h ha) hb.1,cZ _ b ha hb.2⟩
   .rename_i h;obtain rfl:k=j:=xK (by simpa using f) (by simpa using h);split
    .exact cZ a b ha.2 hb.2
    .exact qV.2 ⟨V3 ha.2 hb.2 ha.1 hb.1,cZ a b ha.2 hb.2⟩
termination_by a b=>a.length+b.length
theorem zN1: ∀ {l m:List Cg},(l.Pairwise fun x y=>ltS x.k y.k=true)->(m.Pairwise fun x y=>ltS x.k y.k=true)->(∀c,c∈l↔c∈m)->l=m
 | [],[],_,_,_=>rfl
 | [],x::m,_,_,h=>by have:=(h x).2 (zJ ..);cases this
 | x::l,[],_,_,h=>by have:=(h x).1 (zJ ..);cases this
 | x::l,y::m,hl,hm,h=>by
  have f:=qV.1 hl;have j:=qV.1 hm;have q:x=y:=by
   rcases zK.1 ((h x).1 (zJ ..))with e | e
   .exact e
   .rcases zK.1 ((h y).2 (zJ ..))with o | o
    .exact o.symm
    .have t:=j.1 x e;have p:=f.1 y o;rw[wX t]at p;cases p
  subst q;refine congrArg _ (zN1 f.2 j.2 fun c=>⟨fun a=> ?_,fun a=> ?_⟩)
  .rcases zK.1 ((h c).1 (zC _ a))with e | e
   .have:=f.1 c a;rw[e,kB]at this;cases this
   .exact e
  .rcases zK.1 ((h c).2 (zC _ a))with e | e
   .have:=j.1 c a;rw[e,kB]at this;cases this
   .exact e
def zLs {f b':Kvs}(q:Srt l)(hb:Srt m)(o:Srt f)(p:Srt b')(h: ∀k,(lookP k l=lookP k f/\lookP k m=lookP k b')\/(lookP k l=lookP k m/\lookP k f=lookP k b')):chg l m=chg f b':=
 zN1 (cZ l m q hb) (cZ f b' o p) fun c=>by
  rw[aB l m q hb,aB f b' o p];rcases h c.k with⟨j,a⟩ | ⟨j,a⟩
  .rw[j,a]
  .rw[j,a];simp
end Go.Bt
namespace Go.Eng.Sh
open Go.Bt
def zNd:AV:= .agg [.bool false, .nS, .nS, .nS]
def NR (H:AH)(B:Nat):Prop:= ∀l e k g,H.h.get B=some (.cells l e k g)->g=false/\l≠[]
def zHS (g:h.h.get A=some (.cells P B N false))(hl:P≠[]):NR h A:=fun _ _ _ _ H=>by
 rw[g]at H;cases H;exact⟨rfl,hl⟩
theorem NR.keep {H H':AH}{S:Nat->Prop}{B:Nat}(h:NR H B)(s:Stp S H H')(hl:B<H.next)(a: ¬S B):NR H' B:=fun l e k g x=>h l e k g (by rw[<-s.keep B hl a];exact x)
theorem NR.row (e:kZ A B h p N P)(hb:NR h Y): ¬Blk p Y:=by
 rcases e with⟨f,⟨rfl,_⟩ | ⟨k,rfl,j,a⟩⟩ | ⟨f,k,o,g,rfl,j,a,m⟩
 .intro e;exact(zRu.1 e).elim
 .intro e;obtain⟨_,_,_,e⟩:=e
  cases e
  exact absurd (hb _ _ _ _ a).1 (by simp)
 .intro e;obtain⟨_,_,_,e⟩:=e
  cases e
  exact(hb _ _ _ _ a).2 (zW (by rw[f,m];simp))
theorem NR.node (H:jZ h p C)(hb:NR h A): ¬xS p A:=by
 obtain⟨ks,vs,ps,rfl,a,f,j⟩:=H;rw[wO]
 rintro(e | e | e)
 .exact hb.row a e
 .exact hb.row f e
 .exact hb.row j e
structure CnsX {σ:Type}(A M N0:Nat)(step:σ->Ptr×Nd.Node->Bool×σ)(I:Nat->Bool×σ->AH->(Nat->Prop)->Prop):Prop where
 ok: ∀ {b x H W},I b x H W->H.ok
 lt: ∀ {b x H W},I b x H W-> ∀B,W B->B<H.next/\N0<=B
 mono: ∀ {b b' x H W},I b x H W->b'<=b->I b' x H W
 frame: ∀ {b x H H' W S},I b x H W->Stp S H H'->(∀B,S B-> ¬W B)->(∀B,S B->NR H B)->I b x H' W
 run: ∀ {b s a az H W} (m:Nat),M<=m->I (b+1) (true,s) H W->encN H W a az-> ∃H' W',(dy (m+1)).yld A az H=some (.bool (step s a).1,H')/\I b (step s a) H' W'/\Adw W H W' H'
def Cns.x {step:g->Ptr×Nd.Node->Bool×g}{I:Nat->Bool×g->AH->(Nat->Prop)->Prop}(c:Cns A B N encN step I):CnsX A B N step I:=⟨c.ok,c.lt,c.mono,fun h s a _=>c.frame h s a,c.run⟩
structure Pss {π:Type}(N0:Nat)(pv kv:AV)(Q:Ptr->Option Nd.Node)(GG:π->AH->(Nat->Prop)->Prop)(pb:π->Ptr->Bool×π):Prop where
 nr: ∀ {s H W},GG s H W-> ∀B,W B->NR H B
 pass: ∀ {s H W} (m n:Nat) (p:Ptr),GG s H W-> ∃H' W',callV [(61,f61 (dy (m+1)) n),(79,f79 (dy (m+1)) n)] (dy (m+1)) pv [.agg (jS p)] H=some (.bool (pb s p).1,H')/\GG (pb s p).2 H' W'/\Adw W H W' H'
 known: ∀ {s H W p nd},GG s H W->Q p=some nd->(∃v,lkM (1::[6,6,10]) zNd true kv (.agg (jS p)) H=some (.tuple [v, .bool true])/\jZ H v nd/\ ∀B,xS v B->B<N0/\ ¬W B)\/lkM (1::[6,6,10]) zNd true kv (.agg (jS p)) H=some (.tuple [zNd, .bool false])
section
variable {σ:Type}{At N0 k M A2 Aw:Nat}{kv:AV}{root:Ptr}{Q:Ptr->Option Nd.Node}{G:AH->(Nat->Prop)->Prop}{step:σ->Ptr×Nd.Node->Bool×σ}{I:Nat->Bool×σ->AH->(Nat->Prop)->Prop}
structure Wp (N0 At Aw:Nat)(kv:AV)(G:AH->(Nat->Prop)->Prop)(I:Nat->Bool×σ->AH->(Nat->Prop)->Prop)(H:AH)(Wg Wi:Nat->Prop)(left bud:Nat)(x:Bool×σ):Prop where
 g:G H Wg
 i:I bud x H Wi
 w: ∃e,H.h.get Aw=some (.cells [.ptr At 0,kv, .int .i64 left, .int .i64 (0:Nat)] e 1 false)
 lo:N0<=Aw
 ng: ¬Wg Aw
 ni: ¬Wi Aw
 sep: ∀B,Wi B-> ¬Wg B
 nr: ∀B,Wg B->NR H B
variable (r:Rdr At N0 k root Q G)(c:CnsX A2 M N0 step I)
include r c
theorem Wp.ok {H:AH}{Wg f:Nat->Prop}{left a:Nat}{x:Bool×σ}(h:Wp N0 At Aw kv G I H Wg f left a x):H.ok:=And.left ⟨r.ok h.g,c.ok h.i⟩
theorem Wp.lt {H:AH}{Wg a:Nat->Prop}{left f:Nat}{x:Bool×σ}(h:Wp N0 At Aw kv G I H Wg a left f x): ∀B,Wid Aw Wg a B->B<H.next:=fun B j=>by
 rcases j with e | e | rfl
 .exact r.lt h.g B e
 .exact(c.lt h.i B e).1
 .obtain⟨_,g⟩:=h.w;exact(r.ok h.g).lt g
theorem Wp.frame {H H':AH}{Wg j S:Nat->Prop}{left m:Nat}{x:Bool×σ}(h:Wp N0 At Aw kv G I H Wg j left m x)(s:Stp S H H')(f: ∀B,S B->N0<=B/\ ¬Wid Aw Wg j B)(hR: ∀B,S B->NR H B):Wp N0 At Aw kv G I H' Wg j left m x:=by
 obtain⟨e,g⟩:=h.w;refine⟨r.frame h.g s fun B a=>⟨(f B a).1,fun w=>(f B a).2 (.inl w)⟩,c.frame h.i s (fun B a w=>(f B a).2 (.inr (.inl w))) hR,⟨e, ?_⟩,h.lo,h.ng,h.ni,h.sep,fun B a=>(h.nr B a).keep s (r.lt h.g B a) fun w=>(f B w).2 (.inl a)⟩;rw[s.keep _ ((r.ok h.g).lt g) (fun w=>(f _ w).2 (.inr (.inr rfl)))];exact g
def Wp.prs {x:Bool×σ}(H:Wp N0 At Aw kv G I h w q A B x)(s:Prs h L):Wp N0 At Aw kv G I L w q A B x:=H.frame r c s (fun _ H'=>H'.elim) (fun _ H'=>H'.elim)
theorem Wp.less {left':Nat}{x:Bool×σ}(H:Wp N0 At Aw kv G I h w q A B x): ∃H',stN 1 (.ptr Aw 2) (.int .i64 left') h=some (jQ,H')/\Wp N0 At Aw kv G I H' w q left' B x/\Stp (fun left=>left=Aw) h H':=by
 obtain⟨e,g⟩:=H.w;obtain⟨H',p,m,f⟩:=zPN (r.ok H.g) g (o:=2) (x:= .int .i64 left') rfl (by simp);exact⟨H',p,⟨r.frame H.g f (fun left a=>by subst a;exact⟨H.lo,H.ng⟩),c.frame H.i f (fun left a=>by subst a;exact H.ni) (fun left a=>by subst a;exact zHS g (by simp)),⟨e,m⟩,H.lo,H.ng,H.ni,H.sep,fun left a=>(H.nr left a).keep f (r.lt H.g left a) fun Wg=>H.ng (Wg▸a)⟩,f⟩
theorem Wp.noerr {x:Bool×σ}(H:Wp N0 At Aw kv G I h w q A B x): ∃H',stN 1 (.ptr Aw 3) (.int .i64 (0:Nat)) h=some (jQ,H')/\Wp N0 At Aw kv G I H' w q A B x/\Stp (fun left=>left=Aw) h H':=by
 obtain⟨e,g⟩:=H.w;obtain⟨H',p,m,f⟩:=zPN (r.ok H.g) g (o:=3) (x:= .int .i64 (0:Nat)) rfl (by simp);exact⟨H',p,⟨r.frame H.g f (fun left a=>by subst a;exact⟨H.lo,H.ng⟩),c.frame H.i f (fun left a=>by subst a;exact H.ni) (fun left a=>by subst a;exact zHS g (by simp)),⟨e,m⟩,H.lo,H.ng,H.ni,H.sep,fun left a=>(H.nr left a).keep f (r.lt H.g left a) fun Wg=>H.ng (Wg▸a)⟩,f⟩
theorem Wp.tell {s:σ}{p:Ptr}(m n:Nat)(hm:M<=m)(H:Wp N0 At Aw kv G I h w q A (B+1) (true,s))(y:jZ h f C)(z:Nd.size C<=500)(hl:C.leaf=true->C.vals.length=C.keys.length)(hb: ∀left,xS f left-> ¬Wid Aw w q left):
  ∃H' o,callV [(61,f61 (dy (m+1)) n),(79,f79 (dy (m+1)) n)] (dy (m+1)) (.yT A2) [.agg (jS p),f] h=some (.bool (step s (p,C)).1,H')/\Wp N0 At Aw kv G I H' w o A B (step s (p,C))/\Awk Aw w q h w o H':=by
 obtain⟨H',o,t,J,j⟩:=c.run m hm H.i (a:=(p,C)) (az:=[.agg (jS p),f]) ⟨f,rfl,y,z,hl,fun left nd Wg=>hb left nd (.inr (.inl Wg))⟩;obtain⟨e,g⟩:=H.w;have x:=(r.ok H.g).lt g;refine⟨H',o,by rw[zFd];exact t,⟨r.frame H.g j.1 (fun left nd=>⟨(c.lt H.i left nd).2,H.sep left nd⟩),J,⟨e,by rw[j.1.keep _ x H.ni];exact g⟩,H.lo,H.ng,fun nd=> ?_,fun left nd u=> ?_,fun left nd=>(H.nr left nd).keep j.1 (r.lt H.g left nd) fun Wg=>H.sep left Wg nd⟩,⟨j.1.mono fun left _ nd=> .inr (.inl nd),fun left nd=> .inl nd,j.2⟩⟩
 .rcases j.2 _ nd with e | e
  .exact H.ni e
  .omega
 .rcases j.2 left nd with e | e
  .exact H.sep left e u
  .have:=r.lt H.g left u;omega
theorem Wp.go {x:Bool×σ}(H:Wp N0 At Aw kv G I h w z A B x)(t:a L q)(f:Adw w h q L)(u: ∀Wg,q Wg->NR L Wg):Wp N0 At Aw kv a I L q z A B x/\Awk Aw w z h q z L:=by
 obtain⟨e,g⟩:=H.w;have H':=(r.ok H.g).lt g;refine⟨⟨t,c.frame H.i f.1 (fun Wg p hi=>H.sep Wg hi p) H.nr,⟨e,by rw[f.1.keep _ H' H.ng];exact g⟩,H.lo,fun p=> ?_,H.ni,fun Wg hi p=> ?_,u⟩,⟨f.1.mono fun Wg _ p=> .inl p,f.2,fun Wg p=> .inl p⟩⟩
 .rcases f.2 _ p with e | e
  .exact H.ng e
  .omega
 .rcases f.2 Wg p with e | e
  .exact H.sep Wg hi e
  .have:=(c.lt H.i Wg hi).1;omega
end
open Go.Bt
section
variable {σ π:Type}{At N0 k M A2 Aw:Nat}{pv kv:AV}{root:Ptr}{Q:Ptr->Option Nd.Node}{GG:π->AH->(Nat->Prop)->Prop}{pb:π->Ptr->Bool×π}{step:σ->Ptr×Nd.Node->Bool×σ}{I:Nat->Bool×σ->AH->(Nat->Prop)->Prop}
variable (rr: ∀s,Rdr At N0 k root Q (GG s))(ps:Pss N0 pv kv Q GG pb)(c:CnsX A2 M N0 step I)
include rr ps c
theorem zDU (m n:Nat)(hm:M+300000000<=m)(hn:300000000<=n){s:π}{t:σ}{left:Nat}(hq:Q E=some C)(hz:Nd.size C<=500)(nd:Wp N0 At Aw kv (GG s) I h w q A A (true,t))(c3:(pb s E).1=false->A=left+1)(d5:left<=1000000000):
  ((pb s E).1=true/\ ∃H' Y,f166 (dy (m+1)) n [.ptr Aw 0, .agg (jS E),S [],S [],pv, .yT A2] h=some (.bool true,H')/\Wp N0 At Aw kv (GG (pb s E).2) I H' Y q A A (true,t)/\Awk Aw w q h Y q H')\/
  ((pb s E).1=false/\ ∃y Y j o v,f166 (dy (m+1)) n [.ptr Aw 0, .agg (jS E),S [],S [],pv, .yT A2] h=dG (BC (dy (m+1)) n [.ptr Aw 0,S [],S [],pv, .yT A2, .ptr j 0, .ptr o 0] y)/\Wp N0 At Aw kv (GG (pb s E).2) I y Y q left (left+1) (true,t)/\Awk Aw w q h Y q y/\NB y (Wid Aw Y q) o v C/\y.h.get j=some (.cells (jS E) 42 1 false)):=by
 have r:=rr s;have p:=rr (pb s E).2;have hk:=nd.ok r c;have d6:=nd.lo;obtain⟨e0,c4⟩:=nd.w;have lw:=hk.lt c4;have c5:=nd.lt r c;obtain⟨H1,j,b1,p1,g1,m1,n1⟩:=box hk (.cells (jS E) 42 1 false);have W1:=nd.prs r c p1;obtain⟨K,u,e2,b3,a2⟩:=ps.pass m n E W1.g;obtain⟨W2,b5⟩:=W1.go r c b3 a2 (ps.nr b3);have a4:bxV 42 (.agg (jS E))=some (.cells (jS E) 42 1 false,fun Wg=> .ptr Wg 0):=rfl;have ap: ∀ {h:AH},h.h.get j=some (.cells (jS E) 42 1 false)->ldN 3 (.ptr j 0) h=some (.agg (jS E)):=fun g=>by rw[jR g];rfl
 have r1:=ap g1;have a1:Awk Aw w q h u q K:=(Awk.prs p1).trans b5;have N1:=p1.next;have N2:=a2.1.next
 cases hb:(pb s E).1 with
 | true=>
  rw[hb]at e2;refine .inl ⟨rfl,K,u, ?_,W2,a1⟩;simp(maxSteps:=999999)(disch:=omega) only[f166,eZ,a4,b1,r1,e2]
 | false=>
  obtain rfl:=c3 hb;rw[hb]at e2;have a5: ¬Wid Aw w q j:=fun H=>by have:=c5 _ H;omega
  have c2: ¬Wid Aw u q j:=fun H=>by
   rcases b5.adw.2 _ H with e | e
   .exact a5 e
   .omega
  have q2:K.h.get j=some (.cells (jS E) 42 1 false):=by rw[a2.1.keep _ n1 (fun e=>a5 (.inl e))];exact g1
  obtain⟨H3,e3,W3,s3⟩:=W2.less p c (left':=left);have N3:=s3.next
  have c6:=W3.lt p c;obtain⟨H4,o,b4,J,g4,m4,n4⟩:=box s3.ok (.cells [.bool false, .nS, .nS, .nS] 119 1 false);have W4:=W3.prs p c J;have N4:=J.next
  have a0: ¬Wid Aw u q o:=fun H=>by have:=c6 _ H;omega
  have b6:j≠Aw:=fun e=>a5 (.inr (.inr e))
  have q3:H3.h.get j=some (.cells (jS E) 42 1 false):=by rw[s3.keep _ (by omega) b6];exact q2
  obtain⟨x2,b7⟩:=W2.w;obtain⟨x3,b8⟩:=W3.w;have b0:((left+1:Nat):Int) - ((1:Nat):Int)=(left:Int):=by omega
  have b2: ¬(left:Int)< ((0:Nat):Int):=by omega
  have ab: ∀ {G:AH},Stp (Wid Aw u q) K G->Stp (Wid Aw w q) h G:=fun st=>zRp a1.s st fun B a=>by
   rcases a1.adw.2 B a with e | e
   .exact .inr e
   .exact .inl e
  rcases ps.known W3.g hq with⟨v,a7,nv,hv⟩ | a7
  .obtain⟨ks,vs,N,rfl,w1,w2,w3⟩:=id nv;obtain⟨O,e5,g5,z,n5⟩:=jV J.ok g4 (l':=[.bool C.leaf,ks,vs,N]) rfl (by simp[jP,w1.isCell,w2.isCell,w3.isCell];rfl);have a8:stN 4 (.ptr o 0) (.agg [.bool C.leaf,ks,vs,N]) H4=some (jQ,O):=e5;have Z:=W4.frame p c z (fun B a=>by subst a;exact⟨by omega,a0⟩) (fun B a=>by subst a;exact zHS g4 (by simp));have N5:=z.next
   have c7:jZ O (.agg [.bool C.leaf,ks,vs,N]) C:=(nv.prs J).stp z (fun B a e=>by have:=nv.lt a;omega);have st5:Stp (Wid Aw u q) K O:=zRp ((s3.mono fun B _ a=> .inr (.inr a)).trans J.stp) z fun B a=> .inl (by omega)
   refine .inr ⟨rfl,O,u,j,o,_, ?_,Z,⟨ab st5,a1.g,fun B a=> .inl a⟩,⟨⟨_,_,rfl,g5⟩,c7,a0,fun B a H=> ?_⟩,by rw[z.keep _ (by omega) (by omega),J.keep _ (by omega) (fun x=>x)];exact q3⟩
   .have a3:lkM (1::[6,6,10]) (.agg [.bool false, .nS, .nS, .nS]) true kv (.agg (jS E)) H3=some (.tuple [.agg [.bool C.leaf,ks,vs,N], .bool true]):=a7;simp(maxSteps:=999999)(disch:=omega) only[f166,eZ,a4,b1,r1,e2,jM b7,b0,e3,jM b8,b2,a3,ap q3,jN,nth,b4,a8]
   .have:=(hv B a).1;rcases H with e | e | e
    .exact(hv B a).2 e
    .have:=(c.lt W3.i B e).2;omega
    .omega
  .obtain⟨O,e5,g5,z,n5⟩:=jV J.ok g4 (l':=[.bool false, .nS, .nS, .nS]) rfl rfl;have a8:stN 4 (.ptr o 0) (.agg [.bool false, .nS, .nS, .nS]) H4=some (jQ,O):=e5;have Z:=W4.frame p c z (fun B a=>by subst a;exact⟨by omega,a0⟩) (fun B a=>by subst a;exact zHS g4 (by simp));have N5:=z.next
   obtain⟨v,H6,b9,e6,c0,T,c1,f6⟩:=p.load (m+1) n (by omega) (by omega) Z.g hq hz;obtain⟨W6,c8⟩:=Z.go p c c0 T (ps.nr c0);have N6:=T.1.next
   have a9: ¬Wid Aw b9 q o:=fun H=>by
    rcases c8.adw.2 _ H with e | e
    .exact a0 e
    .omega
   have g6:H6.h.get o=some (.cells [.bool false, .nS, .nS, .nS] 119 1 false):=by rw[T.1.keep _ (by omega) (fun e=>a0 (.inl e))];exact g5
   obtain⟨ks,vs,N,rfl,w1,w2,w3⟩:=id c1;obtain⟨H7,e7,g7,s7,n7⟩:=jV T.1.ok g6 (l':=[.bool C.leaf,ks,vs,N]) rfl (by simp[jP,w1.isCell,w2.isCell,w3.isCell];rfl);have c9:stN 4 (.ptr o 0) (.agg [.bool C.leaf,ks,vs,N]) H6=some (jQ,H7):=e7;have W7:=W6.frame p c s7 (fun B a=>by subst a;exact⟨by omega,a9⟩) (fun B a=>by subst a;exact zHS g6 (by simp));have d0:=c1.stp s7 (fun B a e=>by have:=(f6 B a).1;omega);obtain⟨y,e8,W8,s8⟩:=W7.noerr p c;have d1:=d0.stp s8 (fun B a e=>by have:=(f6 B a).1;omega);have N7:=s7.next;have N8:=s8.next
   have g8:y.h.get o=some (.cells [.bool C.leaf,ks,vs,N] 119 1 false):=by rw[s8.keep _ (by omega) (by omega)];exact g7
   have st5:Stp (Wid Aw u q) K O:=zRp ((s3.mono fun B _ a=> .inr (.inr a)).trans J.stp) z fun B a=> .inl (by omega)
   have d2:Stp (Wid Aw u q) K H6:=st5.trans (T.1.mono fun B _ a=> .inl a);have d3:Stp (Wid Aw u q) K y:=zRp (zRp d2 s7 fun B a=> .inl (by omega)) s8 fun B a=> .inr (.inr (.inr a))
   have q5:O.h.get j=some (.cells (jS E) 42 1 false):=by rw[z.keep _ (by omega) (by omega),J.keep _ (by omega) (fun x=>x)];exact q3
   have q8:y.h.get j=some (.cells (jS E) 42 1 false):=by rw[s8.keep _ (by omega) b6,s7.keep _ (by omega) (by omega),T.1.keep _ (by omega) (fun e=>c2 (.inl e))];exact q5
   refine .inr ⟨rfl,y,b9,j,o,_, ?_,W8,⟨ab d3,fun B a=> ?_,fun B a=> .inl a⟩,⟨⟨_,_,rfl,g8⟩,d1,a9,fun B a H=> ?_⟩,q8⟩
   .obtain⟨x5,d4⟩:=Z.w;have a3:lkM (1::[6,6,10]) (.agg [.bool false, .nS, .nS, .nS]) true kv (.agg (jS E)) H3=some (.tuple [.agg [.bool false, .nS, .nS, .nS], .bool false]):=a7;simp(maxSteps:=999999)(disch:=omega) only[f166,eZ,a4,b1,r1,e2,jM b7,b0,e3,jM b8,b2,a3,ap q3,jN,nth,b4,a8,jM d4,ap q5,e6,c9,e8]
   .rcases T.2 B a with e | e
    .exact(a1.g B e).imp id fun e=>by omega
    .exact .inr (by omega)
   .have h1:=(f6 B a).1;rcases H with e | e | e
    .exact(f6 B a).2 e
    .have:=(c.lt Z.i B e).1;omega
    .omega
omit ps in
theorem zGh (m n:Nat)(hm:M+300000000<=m)(hn:300000000<=n){p:Ptr}{nd:Nd.Node}{s:π}{t:σ}{v:AV}(a0: ∀t a,(step t a).1=true)(hz:Nd.size nd<=500)(a5:nd.leaf=true->nd.vals.length=nd.keys.length)(J:Wp N0 At Aw kv (GG s) I h w q A (A+1) (true,t))(o:NB h (Wid Aw w q) N v nd)(q8:h.h.get B=some (.cells (jS p) 42 1 false)):
  ∃f u,Wp N0 At Aw kv (GG s) I f w u A A (true,(step t (p,nd)).2)/\Awk Aw w q h w u f/\NB f (Wid Aw w u) N v nd/\
   (nd.leaf=true->dG (BC (dy (m+1)) n [.ptr Aw 0,S [],S [],pv, .yT A2, .ptr B 0, .ptr N 0] h)=some (.bool true,f))/\
   (nd.leaf=false-> ∃z,Prs f z/\dG (BC (dy (m+1)) n [.ptr Aw 0,S [],S [],pv, .yT A2, .ptr B 0, .ptr N 0] h)=dG (jb 0 (kJ n (ZB (dy (m+1)) n) [.ptr Aw 0,S [],S [],pv, .yT A2, .ptr N 0, .int .i64 (xL nd.keys []:Nat), .int .i64 (xL nd.keys []:Nat)] z) (zCj (dy (m+1)) n))):=by
 have r:=rr s;obtain⟨l,e,rfl,Y⟩:=o.g;obtain⟨ks,vs,K,a1,_⟩:=id o.nv;simp only[AV.agg.injEq]at a1;subst a1;obtain⟨f,u,x,Z,a9⟩:=J.tell r c (p:=p) m n (by omega) o.nv hz a5 o.b;have hs:step t (p,nd)=(true,(step t (p,nd)).2):=by rw[<-a0 t (p,nd)]
 rw[hs]at Z;rw[a0]at x;have a2:=o.adw (J.ok r c) a9.adw;have y:f.h.get N=some (.cells [.bool nd.leaf,ks,vs,K] e 1 false):=by rw[a9.s.keep _ ((J.ok r c).lt Y) o.a];exact Y
 obtain⟨z,O,a6⟩:=QF (dy (m+1)) n (by omega) (Z.ok r c) (v:= .agg [.bool nd.leaf,ks,vs,K]) (nd:=nd) (key:=[]) a2.nv.node (zH2 hz);obtain⟨x8,a3⟩:=J.w;have a4: ¬(((0:Nat):Int)≠((0:Nat):Int)):=by omega
 have ap:ldN 3 (.ptr B 0) h=some (.agg (jS p)):=by rw[jR q8];rfl
 have Wg:ldN 4 (.ptr N 0) h=some (.agg [.bool nd.leaf,ks,vs,K]):=gJ Y rfl;have r9:ldN 4 (.ptr N 0) f=some (.agg [.bool nd.leaf,ks,vs,K]):=gJ y rfl;refine⟨f,u,Z,a9,a2,fun hl=> ?_,fun hl=>⟨z,a6, ?_⟩⟩
 .rw[hl]at Wg x y;simp(maxSteps:=999999)(disch:=omega) only[BC,eZ,jM a3,a4,ap,Wg,x,jM y]
 .rw[hl]at Wg x y r9 O;rw[dZ hl rfl []]at O;simp(maxSteps:=999999)(disch:=omega) only[BC,eZ,jM a3,a4,ap,Wg,x,jM y,r9,O]
end
end Go.Eng.Sh
namespace Go.Bt
open Go.Nd (Str Kvs)
def dO {π:Type}(Q:Ptr->Option Nd.Node)(f:π->Ptr->Nd.Node->List (Ptr×Nd.Node)×π):List Ptr->π->List (Ptr×Nd.Node)×π
 | [],s=>([],s)
 | p::ps,s=>match Q p with
  | some nd=>((f s p nd).1++(dO Q f ps (f s p nd).2).1,(dO Q f ps (f s p nd).2).2)
  | none=>dO Q f ps s
def QC {π:Type}(Q:Ptr->Option Nd.Node)(pb:π->Ptr->Bool×π):Nat->π->Ptr->Nd.Node->List (Ptr×Nd.Node)×π
 | 0,s,p,nd=>bif (pb s p).1 then([],(pb s p).2)else([(p,nd)],(pb s p).2)
 | h+1,s,p,nd=>bif (pb s p).1 then([],(pb s p).2)else((p,nd)::(dO Q (QC Q pb h) nd.kids (pb s p).2).1,(dO Q (QC Q pb h) nd.kids (pb s p).2).2)
def VP (Q:Ptr->Option Nd.Node):Nat->Nd.Node->Prop
 | 0,nd=>nd.leaf=true/\nd.vals.length=nd.keys.length/\Nd.size nd<=500
 | h+1,nd=>nd.leaf=false/\nd.kids.length=nd.keys.length+1/\Nd.size nd<=500/\xL nd.keys []=0/\ ∀p∈nd.kids,∃a,Q p=some a/\VP Q h a
theorem VP.sz (v:VP t A C):Nd.size C<=500:=by
 cases A with
 | zero=>exact v.2.2
 | succ A=>exact v.2.2.1
def hH {σ α:Type}(step:σ->α->Bool×σ)(l:List α)(t:σ):σ:=l.foldl (fun t a=>(step t a).2) t
def zIn {α:Type}(step:g->α->Bool×g)(l l':List α)(t:g):hH step (l++l') t=hH step l' (hH step l t):=List.foldl_append ..
end Go.Bt
namespace Go.Eng.Sh
open Go.Bt
theorem zQc{A2 Aw:Nat}(nb:NB h w A f C)(hi:B<C.kids.length)(u:B<=1000000)
  (m:D.fn 166 [.ptr Aw 0, .agg (jS C.kids[B]),S [],S [],p, .yT A2] h=some (.bool true,L)):
  ZB D n [.ptr Aw 0,S [],S [],p, .yT A2, .ptr A 0, .int .i64 (0:Nat), .int .i64 B] h=some (.norm [.ptr Aw 0,S [],S [],p, .yT A2, .ptr A 0, .int .i64 (0:Nat), .int .i64 (B+1:Nat)],L):=by
 obtain⟨l,e,rfl,g⟩:=nb.g;obtain⟨ks,vs,ps,hl,x,y,q⟩:=nb.nv;simp only[AV.agg.injEq]at hl;subst hl;have hp:gY h ps C.kids:=q.row;obtain⟨z,o,a⟩:=hp.at hi;have H:(B:Int)< (C.kids.length:Int):=by omega
 have hi1:(B:Int)+((1:Nat):Int)=((B+1:Nat):Int):=by omega
 have t:(AV.str 0 0)=S []:=rfl;have H':d7 .neq (S []) (S [])=some (.bool false):=by rw[vE];simp
 by_cases j:((0:Nat):Int)< (B:Int)
 .simp(maxSteps:=999999)(disch:=omega) only[ZB,eZ,zP,qH,jM g,hp.lnSl,H,j,t,H',o,a,m,hi1]
 .simp(maxSteps:=999999)(disch:=omega) only[ZB,eZ,zP,qH,jM g,hp.lnSl,H,j,o,a,m,hi1]
theorem zKW(nb:NB h w N f C):
  ZB D n [.ptr B 0,S [],S [],p, .yT A, .ptr N 0, .int .i64 (0:Nat), .int .i64 C.kids.length] h=some (.exit 0 [],h):=by
 obtain⟨l,e,rfl,g⟩:=nb.g;obtain⟨ks,vs,ps,hl,H,j,A2⟩:=nb.nv;simp only[AV.agg.injEq]at hl;subst hl;have hp:gY h ps C.kids:=A2.row;simp(maxSteps:=999999)(disch:=omega) only[ZB,eZ,jM g,hp.lnSl,y7]
section
variable {σ π:Type}{At N0 k M A2 Aw:Nat}{pv kv:AV}{root:Ptr}{Q:Ptr->Option Nd.Node}{GG:π->AH->(Nat->Prop)->Prop}{pb:π->Ptr->Bool×π}{step:σ->Ptr×Nd.Node->Bool×σ}{I:Nat->Bool×σ->AH->(Nat->Prop)->Prop}
def zRf (N0 At Aw M A2:Nat)(pv kv:AV)(Q:Ptr->Option Nd.Node)(GG:π->AH->(Nat->Prop)->Prop)(pb:π->Ptr->Bool×π)(step:σ->Ptr×Nd.Node->Bool×σ)(I:Nat->Bool×σ->AH->(Nat->Prop)->Prop)(h:Nat):Prop:=
 ∀(m n:Nat) (p:Ptr) (nd:Nd.Node) (s:π) (t:σ) (H:AH) (Wg j:Nat->Prop) (left:Nat),M+h+300000000<=m->300000000<=n->Q p=some nd->VP Q h nd->Wp N0 At Aw kv (GG s) I H Wg j left left (true,t)->(QC Q pb h s p nd).1.length<=left->left<=1000000000->
  ∃H' a f left',f166 (dy (m+1)) n [.ptr Aw 0, .agg (jS p),S [],S [],pv, .yT A2] H=some (.bool true,H')/\Wp N0 At Aw kv (GG (QC Q pb h s p nd).2) I H' a f left' left' (true,hH step (QC Q pb h s p nd).1 t)/\Awk Aw Wg j H a f H'/\left<=left'+(QC Q pb h s p nd).1.length/\left'<=left
variable (rr: ∀s,Rdr At N0 k root Q (GG s))(ps:Pss N0 pv kv Q GG pb)(c:CnsX A2 M N0 step I)
include rr ps c
omit ps in
theorem zGi {h m n x:Nat}{nd:Nd.Node}{v:AV}(J:zRf N0 At Aw M A2 pv kv Q GG pb step I h)(K:Nd.size nd<=500)(u: ∀p∈nd.kids,∃a,Q p=some a/\VP Q h a)(hm:M+h+300000000<=m):
  ∀(ks:List Ptr) (i j:Nat) {s:π} {t:σ} {H:AH} {Wg f:Nat->Prop} {left:Nat},nd.kids.drop i=ks->i<=nd.kids.length->ks.length<j->Wp N0 At Aw kv (GG s) I H Wg f left left (true,t)->NB H (Wid Aw Wg f) x v nd->(dO Q (QC Q pb h) ks s).1.length<=left->left<=1000000000->
   ∃H' y z left',jb 0 (kJ j (ZB (dy (m+2)) n) [.ptr Aw 0,S [],S [],pv, .yT A2, .ptr x 0, .int .i64 (0:Nat), .int .i64 i] H) (zCj (dy (m+2)) n)=some (.ret (.bool true),H')/\
    Wp N0 At Aw kv (GG (dO Q (QC Q pb h) ks s).2) I H' y z left' left' (true,hH step (dO Q (QC Q pb h) ks s).1 t)/\Awk Aw Wg f H y z H'/\left<=left'+(dO Q (QC Q pb h) ks s).1.length/\left'<=left
 | [],i,0,_,_,_,_,_,_,_,_,hk,_,_,_,_=>by simp at hk
 | [],i,j+1,s,t,H,Wg,f,left,hd,hi,_,wk,nb,_,_=>by
  have T:i=nd.kids.length:=by
   have:=congrArg List.length hd;rw[qL]at this;simp at this;omega
  subst T;refine⟨H,Wg,f,left, ?_,by simpa[dO,hH]using wk,Awk.refl (wk.ok (rr s) c),by simp,zM _⟩;rw[jW (zKW (dy (m+2)) n nb)];simp only[jb,zCj,eZ];rfl
 | p::ks,i,0,_,_,_,_,_,_,_,_,hk,_,_,_,_=>by simp at hk
 | p::ks,i,j+1,s,t,H,Wg,f,left,hd,hi,hkf,wk,nb,hl,hlf=>by
  have o:i<nd.kids.length:=by
   have:=congrArg List.length hd;rw[qL,zT]at this;omega
  rw[qI o]at hd;obtain⟨hp,Y⟩:=List.cons.inj hd;obtain⟨a,q,hv⟩:=u _ (yM o);rw[hp]at q;have e0:dO Q (QC Q pb h) (p::ks) s=((QC Q pb h s p a).1++(dO Q (QC Q pb h) ks (QC Q pb h s p a).2).1,(dO Q (QC Q pb h) ks (QC Q pb h s p a).2).2):=by
   simp only[dO,q]
  rw[e0]at hl⊢;simp only[zV]at hl⊢;obtain⟨_,_,a5⟩:=K8 K;obtain⟨H1,a6,a7,a4,e1,Z,N,l1,a8⟩:=J m (m+1) _ _ _ _ _ _ _ _ hm (by omega) q hv wk (by omega) hlf;have hb:=zQc (dy (m+2)) n (Aw:=Aw) (A2:=A2) nb o (by omega) (by rw[zJq,hp];exact e1);obtain⟨H2,a0,a3,O,e2,C,a2,l2,a9⟩:=zGi J K u hm ks (i+1) j Y (by omega) (by simpa using hkf) Z (nb.adw (wk.ok (rr s) c) N.adw) (by omega) (by omega);rw[<-zIn]at C;refine⟨H2,a0,a3,O, ?_,C,N.trans a2,by omega,by omega⟩;rw[kD hb];exact e2
theorem zGj (J: ∀t a,(step t a).1=true): ∀h,zRf N0 At Aw M A2 pv kv Q GG pb step I h
 | 0=>fun m n p nd s t H Wg O left hm o x S y hl a6=>by
  obtain⟨z,v2,f⟩:=S
  cases hb:(pb s p).1 with
  | true=>
   have j:QC Q pb 0 s p nd=([],(pb s p).2):=by simp only[QC,hb,zP]
   rw[j];rcases zDU rr ps c m n (by omega) o (left:=0) x f y (fun e=>by rw[hb]at e;cases e) (by omega)with⟨_,H',K,q,T,Y⟩ | ⟨e,_⟩
   .exact⟨H',K,O,left,q,T,Y,by simp,zM _⟩
   .rw[hb]at e;cases e
  | false=>
   have j:QC Q pb 0 s p nd=([(p,nd)],(pb s p).2):=by simp only[QC,hb,qH]
   rw[j]at hl⊢;obtain⟨l,rfl⟩: ∃l,left=l+1:=⟨left - 1,by simp at hl;omega⟩;rcases zDU rr ps c m n (by omega) o (left:=l) x f y (fun _=>rfl) (by omega)with⟨e,_⟩ | ⟨_,H8,a0,A7,a7,v,q,Z,a8,nb,q8⟩
   .rw[hb]at e;cases e
   .obtain⟨H9,a2,C,a9,_,e9,_⟩:=zGh rr c m n (by omega) o (pv:=pv) J f (fun _=>v2) Z nb q8;exact⟨H9,a0,a2,l,q.trans (e9 z),C,a8.trans a9,by simp,by omega⟩
 | h+1=>fun m n p nd s t H Wg O left hm o x S y hl a6=>by
  obtain⟨z,v2,f,v4,v5⟩:=S;obtain⟨u,rfl⟩: ∃u,m=u+1:=⟨m - 1,by omega⟩
  cases hb:(pb s p).1 with
  | true=>
   have j:QC Q pb (h+1) s p nd=([],(pb s p).2):=by simp only[QC,hb,zP]
   rw[j];rcases zDU rr ps c (u+1) n (by omega) o (left:=0) x f y (fun e=>by rw[hb]at e;cases e) (by omega)with⟨_,H',K,q,T,Y⟩ | ⟨e,_⟩
   .exact⟨H',K,O,left,q,T,Y,by simp,zM _⟩
   .rw[hb]at e;cases e
  | false=>
   have j:QC Q pb (h+1) s p nd=((p,nd)::(dO Q (QC Q pb h) nd.kids (pb s p).2).1,(dO Q (QC Q pb h) nd.kids (pb s p).2).2):=by simp only[QC,hb,qH]
   rw[j]at hl⊢;simp only[zT]at hl⊢;obtain⟨l,rfl⟩: ∃l,left=l+1:=⟨left - 1,by omega⟩;obtain⟨_,_,b8⟩:=K8 f;rcases zDU rr ps c (u+1) n (by omega) o (left:=l) x f y (fun _=>rfl) (by omega)with⟨e,_⟩ | ⟨_,H8,a0,A7,a7,v,q,Z,a8,nb,q8⟩
   .rw[hb]at e;cases e
   .obtain⟨H9,a2,C,a9,b0,_,e9⟩:=zGh rr c (u+1) n (by omega) o (pv:=pv) J f (fun e=>by rw[z]at e;cases e) Z nb q8;obtain⟨b9,N,a3⟩:=e9 z;rw[v4]at a3;have b1:=C.prs (rr _) c N;obtain⟨b2,a4,a5,b3,b4,b5,b6,c0,b7⟩:=zGi rr c (m:=u) (n:=n) (zGj J h) f v5 (by omega) nd.kids 0 n rfl (Nat.zero_le _) (by omega) b1 (b0.adw (C.ok (rr _) c) ⟨N.stp,fun B hB=> .inl hB⟩) (by omega) (by omega);refine⟨b2,a4,a5,b3, ?_,b5,(a8.trans a9).trans ((Awk.prs N).trans b6),by omega,by omega⟩;rw[q,a3,b4];rfl
end
end Go.Eng.Sh
namespace Go.Bt
open Go.Nd (Str Kvs Srt lookP look_none)
open Go.Eng (ltS kN wX kB xK uH)
structure Pc where
 told:Bool
 ptr:Ptr
 kv:Kvs
 T:List Ptr
def vL (P:List Pc):Kvs:=P.flatMap fun x=>bif x.told then x.kv else[]
def Q0 (P:List Pc):Kvs:=P.flatMap (·.kv)
def zDO (P:List Pc):List Ptr:=P.flatMap (·.T)
def xN (P:List Pc):List Ptr:=(P.filter fun x=> !x.told).map (·.ptr)
def zGz (a b:List Pc):vL (a++b)=vL a++vL b:=yV ..
def zLL (a b:List Pc):Q0 (a++b)=Q0 a++Q0 b:=yV ..
def zLK (a b:List Pc):zDO (a++b)=zDO a++zDO b:=yV ..
theorem zFJ (a b:List Pc):xN (a++b)=xN a++xN b:=by simp[xN]
def dP (Q:Ptr->Option Nd.Node)(f:Ptr->Nd.Node->List (Ptr×Nd.Node)×List Ptr):List Ptr->List (Ptr×Nd.Node)×List Ptr
 | []=>([],[])
 | p::ps=>match Q p with
  | some nd=>((f p nd).1++(dP Q f ps).1,(f p nd).2++(dP Q f ps).2)
  | none=>dP Q f ps
def c9 (Q:Ptr->Option Nd.Node)(d:Ptr->Bool):Nat->Ptr->Nd.Node->List (Ptr×Nd.Node)×List Ptr
 | 0,p,nd=>bif d p then([],[p])else([(p,nd)],[])
 | h+1,p,nd=>bif d p then([],[p])else((p,nd)::(dP Q (c9 Q d h) nd.kids).1,(dP Q (c9 Q d h) nd.kids).2)
section
variable {π:Type}{Q:Ptr->Option Nd.Node}{pb:π->Ptr->Bool×π}{d:Ptr->Bool}
theorem zI3 {f:π->Ptr->Nd.Node->List (Ptr×Nd.Node)×π}{g:Ptr->Nd.Node->List (Ptr×Nd.Node)×List Ptr}(a: ∀s p nd,f s p nd=((g p nd).1,(g p nd).2.foldl (fun s p=>(pb s p).2) s)): ∀(ps:List Ptr) (s:π),dO Q f ps s=((dP Q g ps).1,(dP Q g ps).2.foldl (fun s p=>(pb s p).2) s)
 | [],s=>rfl
 | p::ps,s=>by
  simp only[dO,dP]
  cases h:Q p with
  | none=>simp only;exact zI3 a ps s
  | some nd=>
   simp only;rw[a,zI3 a ps,List.foldl_append]
theorem zNa (a: ∀s p,(pb s p).1=d p)(f: ∀s p,d p=false->(pb s p).2=s): ∀(h:Nat) (s:π) (p:Ptr) (nd:Nd.Node),QC Q pb h s p nd=((c9 Q d h p nd).1,(c9 Q d h p nd).2.foldl (fun s p=>(pb s p).2) s)
 | 0,s,p,nd=>by
  simp only[QC,c9,a]
  cases hd:d p with
  | true=>rfl
  | false=>simp only[qH,f s p hd];rfl
 | h+1,s,p,nd=>by
  simp only[QC,c9,a]
  cases hd:d p with
  | true=>rfl
  | false=>
   simp only[qH,f s p hd];rw[zI3 (pb:=pb) (fun s p nd=>zNa a f h s p nd)]
end
def zLW (Q:Ptr->Option Nd.Node)(q:Ptr)(kv:Kvs)(T:List Ptr):Prop:= ∃h nd,∃t:Tr h,∃S,Q q=some nd/\kU Q h nd t S/\kv=con h t/\T=q::S
structure Pcs (Q:Ptr->Option Nd.Node)(d:Ptr->Bool)(P:List Pc):Prop where
 told: ∀x∈P,x.told=true->d x.ptr=false/\x.T=[x.ptr]
 pass: ∀x∈P,x.told=false->d x.ptr=true/\zLW Q x.ptr x.kv x.T
def Pcs.app {d:Ptr->Bool}{a b:List Pc}(h:Pcs t d a)(k:Pcs t d b):Pcs t d (a++b):=
 ⟨fun x f=>(qA.1 f).elim (h.told x) (k.told x),fun x f=>(qA.1 f).elim (h.pass x) (k.pass x)⟩
theorem XD (p:Ptr)(l:Kvs):gK [] (p,leafOf l)=l:=by
 have f: ∀a:Str,ltS a []=false:=fun a=>by cases a<;>rfl
 have h: ∀l:Kvs,Nd.whereN (leafOf l) []=0:=fun l=>by
  simp[Nd.whereN,leafOf,f]
 rw[zKT,h,yL]
section
variable {Q:Ptr->Option Nd.Node}{d:Ptr->Bool}
theorem zEn {h:Nat}(f: ∀ {p:Ptr} {nd:Nd.Node} {t:Tr h} {S:List Ptr},kU Q h nd t S->Q p=some nd-> ∃P,Pcs Q d P/\Q0 P=con h t/\zDO P=p::S/\vL P=(c9 Q d h p nd).1.flatMap (gK [])/\(c9 Q d h p nd).2=xN P):
  ∀ {ps:List Ptr} {ts:List (Tr h)} {S:List Ptr},xT Q (kU Q h) ps ts S-> ∃P,Pcs Q d P/\Q0 P=ts.flatMap (con h)/\zDO P=S/\vL P=(dP Q (c9 Q d h) ps).1.flatMap (gK [])/\(dP Q (c9 Q d h) ps).2=xN P
 | [],[],_,e=>by subst e;exact⟨[],⟨by simp,by simp⟩,rfl,rfl,rfl,rfl⟩
 | p::ps,t::ts,_,⟨nd,S1,S2,a,b,c,e⟩=>by
  subst e;obtain⟨j,m,k1,t1,o,q⟩:=f (p:=p) b a;obtain⟨u,x,k2,t2,y,z⟩:=zEn f c;refine⟨j++u,m.app x,by rw[zLL,k1,k2];rfl,by rw[zLK,t1,t2];rfl, ?_, ?_⟩
  .simp only[dP,a];rw[zGz,o,y,yV]
  .simp only[dP,a];rw[zFJ,q,z]
 | [],_::_,_,h=>h.elim
 | _::_,[],_,h=>h.elim
theorem zEm: ∀(h:Nat) {p:Ptr} {nd:Nd.Node} {t:Tr h} {S:List Ptr},kU Q h nd t S->Q p=some nd-> ∃P,Pcs Q d P/\Q0 P=con h t/\zDO P=p::S/\vL P=(c9 Q d h p nd).1.flatMap (gK [])/\(c9 Q d h p nd).2=xN P
 | 0,p,nd,t,S,rn,hq=>by
  cases hd:d p with
  | true=>exact⟨[⟨false,p,con 0 t,p::S⟩],⟨by simp,fun x f _=>by rw[qS.1 f];exact⟨hd,0,nd,t,S,hq,rn,rfl,rfl⟩⟩,by simp[Q0],by simp[zDO],by simp[vL,c9,hd],by simp[c9,hd,xN]⟩
  | false=>
   obtain⟨rfl,rfl⟩:=rn;exact⟨[⟨true,p,t,[p]⟩],⟨fun x f _=>by rw[qS.1 f];exact⟨hd,rfl⟩,by simp⟩,yB t,by simp[zDO],by simp only[vL,c9,hd,qH,qJ,List.flatMap_nil];exact congrArg (· ++[]) (XD p t).symm,by simp[c9,hd,xN]⟩
 | h+1,p,nd,t,S,rn,hq=>by
  cases hd:d p with
  | true=>exact⟨[⟨false,p,con (h+1) t,p::S⟩],⟨by simp,fun x f _=>by rw[qS.1 f];exact⟨hd,h+1,nd,t,S,hq,rn,rfl,rfl⟩⟩,by simp[Q0],by simp[zDO],by simp[vL,c9,hd],by simp[c9,hd,xN]⟩
  | false=>
   obtain⟨r1,y,z,o⟩:=rn;obtain⟨P,j,k1,t1,q,u⟩:=zEn (d:=d) (fun a b=>zEm h a b) o;have m:gK [] (p,nd)=[]:=by simp only[gK,r1,qH]
   refine⟨⟨true,p,[],[p]⟩::P,⟨fun x f h=> ?_,fun x f h=> ?_⟩, ?_, ?_, ?_, ?_⟩
   .rcases zK.1 f with rfl | f
    .exact⟨hd,rfl⟩
    .exact j.told x f h
   .rcases zK.1 f with rfl | f
    .cases h
    .exact j.pass x f h
   .have:Q0 (⟨true,p,[],[p]⟩::P)=Q0 P:=by simp[Q0]
    rw[this,k1];rfl
   .have:zDO (⟨true,p,[],[p]⟩::P)=p::zDO P:=by simp[zDO]
    rw[this,t1]
   .have:vL (⟨true,p,[],[p]⟩::P)=vL P:=by simp[vL]
    rw[this,q];simp[c9,hd,m]
   .have:xN (⟨true,p,[],[p]⟩::P)=xN P:=by simp[xN]
    rw[this];simp[c9,hd,u]
end
theorem cK (k:Str): ∀(a b:Kvs),lookP k (a++b)=(lookP k a).or (lookP k b)
 | [],b=>by simp[lookP]
 | (x,y)::a,b=>by
  rw[qF,lookP,lookP];by_cases e:x=k
  .simp[e]
  .simp only[if_neg e];exact cK k a b
theorem zAe: ∀ {a b:Kvs},Srt (a++b)->Srt a/\Srt b/\ ∀p∈a,∀q∈b,ltS p.1 q.1=true
 | [],b,h=>⟨trivial,h,by simp⟩
 | x::a,b,h=>by
  obtain⟨y,z⟩:=x;obtain⟨f,m⟩:=h;obtain⟨o,t,u⟩:=zAe m;refine⟨⟨fun p hp=>f p (qU _ hp),o⟩,t,fun p hp q j=> ?_⟩;rcases zK.1 hp with rfl | hp
  .exact f q (yQ _ j)
  .exact u p hp q j
theorem zEx {k:Str} : ∀ {l:Kvs},lookP k l≠none-> ∃p∈l,p.1=k
 | [],h=>absurd rfl h
 | (a,b)::l,h=>by
  by_cases e:a=k
  .exact⟨(a,b),zJ ..,e⟩
  .rw[lookP,if_neg e]at h;obtain⟨p,hp,f⟩:=zEx h;exact⟨p,zC _ hp,f⟩
theorem YY {k:Str}(h: ∀p∈l,∀q∈m,ltS p.1 q.1=true)(f:lookP k l≠none):lookP k m=none:=by
 obtain⟨p,hp,e⟩:=zEx f;exact look_none fun q j a=>by have:=h p hp q j;rw[e,a,kB]at this;cases this
theorem zDh {k:Str} : ∀ {P:List Pc},(∀x∈P,x.told=false->lookP k x.kv=none)->lookP k (vL P)=lookP k (Q0 P)
 | [],_=>rfl
 | x::P,h=>by
  have a:=zDh (P:=P) fun y f=>h y (zC _ f)
  have j:vL (x::P)=(bif x.told then x.kv else[])++vL P:=rfl;have m:Q0 (x::P)=x.kv++Q0 P:=rfl;rw[j,m,cK,cK,a]
  cases o:x.told with
  | true=>rfl
  | false=>rw[h x (zJ ..) o];rfl
theorem zHF {k:Str} : ∀ {P:List Pc},Srt (Q0 P)-> ∀x∈P,x.told=false->lookP k x.kv≠none->lookP k (vL P)=none/\lookP k (Q0 P)=lookP k x.kv
 | [],_,x,a,_,_=>by cases a
 | y::P,hs,x,a,ht,hk=>by
  have C:vL (y::P)=(bif y.told then y.kv else[])++vL P:=rfl;have m:Q0 (y::P)=y.kv++Q0 P:=rfl;rw[m]at hs;obtain⟨Z,J,h⟩:=zAe hs;rw[C,m,cK,cK];have sub: ∀ {P:List Pc},(∀p∈vL P,p∈Q0 P):=fun {P} p hp=>by
   obtain⟨z,K,f⟩:=List.mem_flatMap.1 hp;refine List.mem_flatMap.2 ⟨z,K, ?_⟩
   cases j:z.told with
   | true=>rw[j]at f;exact f
   | false=>rw[j]at f;cases f
  rcases zK.1 a with rfl | a
  .have N:lookP k (vL P)=none:=YY (fun p hp q O=>h p hp q (sub q O)) hk;have S:lookP k (Q0 P)=none:=YY h hk;rw[N,S,ht];exact⟨rfl,by simp⟩
  .obtain⟨T,o⟩:=zHF J x a ht hk;have t:lookP k y.kv=none:=by
    cases Y:lookP k y.kv with
    | none=>rfl
    | some v=>
     have u:=YY h (by rw[Y];simp:lookP k y.kv≠none);rw[o]at u;exact absurd u hk
   rw[T,o,t];refine⟨?_,rfl⟩
   cases y.told
   .rfl
   .simp[t]
theorem UV {α β:Type}{f:α->List β} : ∀ {l:List α},(l.flatMap f).Nodup-> ∀x∈l,∀z∈l,∀a,a∈f x->a∈f z->x=z
 | [],_,x,hx,_,_,_,_,_=>by cases hx
 | y::l,h,x,hx,z,hz,a,h1,h2=>by
  rw[qJ,List.nodup_append]at h;obtain⟨_,t,p⟩:=h;rcases zK.1 hx with q | o
  .rcases zK.1 hz with m | j
   .exact q.trans m.symm
   .exact absurd rfl (p a (q▸h1) a (List.mem_flatMap.2 ⟨z,j,h2⟩))
  .rcases zK.1 hz with m | j
   .exact absurd rfl (p a (m▸h2) a (List.mem_flatMap.2 ⟨x,o,h1⟩))
   .exact UV t x o z j a h1 h2
theorem YX {P:List Pc} :E∈xN P↔ ∃x∈P,x.told=false/\x.ptr=E:=by
 simp only[xN,qZ,List.mem_filter,yU];exact⟨fun⟨x,⟨h1,h2⟩,h3⟩=>⟨x,h1,h2,h3⟩,fun⟨x,h1,h2,h3⟩=>⟨x,⟨h1,h2⟩,h3⟩⟩
theorem zLW.self (h:zLW t E l e):E∈e:=by
 obtain⟨_,_,_,_,_,_,_,rfl⟩:=h;exact zJ ..
theorem zKF {QB:Ptr->Option Nd.Node}{dA dB disk:Ptr->Bool}{J f:List Pc}(a:Pcs t dA J)(b:Pcs QB dB f)(S:Srt (Q0 J))(Y:Srt (Q0 f))(nB:(zDO f).Nodup)
  (hA: ∀q,dA q=true↔q∈xN f) (hB: ∀q,dB q=true↔(q∈zDO J/\disk q=true))
  (hs: ∀q,disk q=true-> ∀k T k' T',zLW t q k T->zLW QB q k' T'->k=k'/\T=T'):chg (vL J) (vL f)=chg (Q0 J) (Q0 f):=by
 have key: ∀y∈J,y.told=false-> ∃z∈f,z.told=false/\z.ptr=y.ptr/\z.kv=y.kv/\z.T=y.T:=fun y m j=>by
  obtain⟨O,Z⟩:=a.pass y m j;obtain⟨z,QA,o,e⟩:=YX.1 ((hA _).1 O);obtain⟨z1,z2⟩:=b.pass z QA o;have hd:=((hB _).1 z1).2;rw[e]at z2 hd;obtain⟨e1,e2⟩:=hs _ hd _ _ _ _ Z z2;exact⟨z,QA,o,e,e1.symm,e2.symm⟩
 have a0: ∀x∈f,x.told=false-> ∃y∈J,y.told=false/\y.kv=x.kv:=fun x u C=>by
  obtain⟨x1,x2⟩:=b.pass x u C;obtain⟨a3,_⟩:=(hB _).1 x1;obtain⟨y,m,K⟩:=List.mem_flatMap.1 a3
  cases j:y.told with
  | true=>
   obtain⟨O,Z⟩:=a.told y m j;rw[Z,qS]at K;rw[<-K,(hA _).2 (YX.2 ⟨x,u,C,rfl⟩)]at O
   cases O
  | false=>
   obtain⟨z,QA,o,e,ek,eT⟩:=key y m j;rw[<-eT]at K;have:x=z:=UV nB x u z QA _ x2.self K;exact⟨y,m,j,by rw[<-ek,this]⟩
 have st: ∀ {P:List Pc},Srt (Q0 P)->Srt (vL P):=fun {P} =>by
  induction P with
  | nil=>exact fun h=>h
  | cons x P ih=>
   intro h;have e1:vL (x::P)=(bif x.told then x.kv else[])++vL P:=rfl;have e2:Q0 (x::P)=x.kv++Q0 P:=rfl;rw[e2]at h;obtain⟨s1,s2,s3⟩:=zAe h;rw[e1]
   cases x.told with
   | false=>exact ih s2
   | true=>
    refine zD6 s1 (ih s2) fun p hp q hq=>s3 p hp q ?_
    obtain⟨z,QA,N⟩:=List.mem_flatMap.1 hq;refine List.mem_flatMap.2 ⟨z,QA, ?_⟩
    cases o:z.told with
    | true=>rw[o]at N;exact N
    | false=>rw[o]at N;cases N
 refine zLs (st S) (st Y) S Y fun k=> ?_
 by_cases h1: ∃x∈f,x.told=false/\lookP k x.kv≠none
 .obtain⟨x,u,C,hk⟩:=h1;obtain⟨y,m,j,e⟩:=a0 x u C;obtain⟨b1,b2⟩:=zHF Y x u C hk;obtain⟨a1,a2⟩:=zHF S y m j (by rw[e];exact hk);exact .inr ⟨by rw[a1,b1],by rw[a2,b2,e]⟩
 .have h2: ∀x∈f,x.told=false->lookP k x.kv=none:=fun x u C=>by
   cases hv:lookP k x.kv with
   | none=>rfl
   | some v=>exact absurd ⟨x,u,C,by rw[hv];simp⟩ h1
  refine .inl ⟨zDh fun y m j=> ?_,zDh h2⟩;obtain⟨z,QA,o,_,ek,_⟩:=key y m j;rw[<-ek];exact h2 z QA o
end Go.Bt
namespace Go.Eng.Sh
open Go.Nd (whereN)
open Go.Bt
def zR8 {π:Type}(Q:Ptr->Option Nd.Node)(pb:π->Ptr->Bool×π)(root:Ptr)(s:π)(L:List (Ptr×Nd.Node))(s':π):Prop:=
 (root.at_=0/\L=[]/\s'=s)\/(root.at_≠0/\ ∃h nd,h<=1000000/\Q root=some nd/\VP Q h nd/\QC Q pb h s root nd=(L,s'))
theorem zBw {σ α:Type}{step:σ->α->Bool×σ}(h: ∀t a,(step t a).1=true): ∀(l:List α) (t:σ),(WQ step l t).1=true
 | [],_=>rfl
 | a::l,t=>by simp only[WQ,h,zP];exact zBw h l _
theorem zBx {σ α:Type}{step:σ->α->Bool×σ}(h: ∀t a,(step t a).1=true): ∀(l:List α) (t:σ),(WQ step l t).2=hH step l t
 | [],_=>rfl
 | a::l,t=>by simp only[WQ,h,zP];exact zBx h l _
theorem zCR (k:Str):BX [] k=true:=rfl
theorem zD5 {step:g->Str×Str->Bool×g}(h: ∀t a,(step t a).1=true)(t:g)(a:Ptr×Nd.Node):(fL [] [] step t a).1=true:=by
 show(WQ (vH [] step) (gK [] a) t).1=true;refine zBw (fun t x=> ?_) _ _;simp only[vH,zCR,zP,h]
section
variable {σ π:Type}{At N0 k M A2 Aw:Nat}{pv kv:AV}{root:Ptr}{Q:Ptr->Option Nd.Node}{GG:π->AH->(Nat->Prop)->Prop}{pb:π->Ptr->Bool×π}{step:σ->Ptr×Nd.Node->Bool×σ}{I:Nat->Bool×σ->AH->(Nat->Prop)->Prop}
variable (rr: ∀s,Rdr At N0 k root Q (GG s))(ps:Pss N0 pv kv Q GG pb)(c:CnsX A2 M N0 step I)
include rr ps c
theorem UO (m:Nat)(hm:M+310000000<=m){Xw Xt Xf Xp:Nat}{s s':π}{t:σ}(a3: ∀t a,(step t a).1=true)(o:Wp N0 At Aw kv (GG s) I h w q A A (true,t))(hL:zR8 Q pb root s W s')(hl:W.length<=A)(a5:A<=1000000000)
  (y:Box h Xw (.ptr Aw 0)) (bt:Box h Xt (S [])) (bf:Box h Xf (S [])) (bp:Box h Xp pv):
  ∃H' N O left',f165 (dy m) m [.yT A2, .ptr Xw 0, .ptr Xt 0, .ptr Xf 0, .ptr Xp 0] h=some (.tuple [],H')/\Wp N0 At Aw kv (GG s') I H' N O left' left' (true,hH step W t)/\Awk Aw w q h N O H':=by
 have r:=rr s;have hk:=o.ok r c;obtain⟨ek,gw⟩:=o.w;obtain⟨f,rfl⟩: ∃f,m=f+1:=⟨m - 1,by omega⟩;obtain⟨H1,e1,z⟩:=r.root (dy (f+1)) (f+1) o.g;obtain⟨H2,C,b2,J,g2,m2,n2⟩:=box z.ok (.cells [.int .i64 (0:Nat), .int .i64 (0:Nat), .int .u64 (0:Nat)] 42 1 false);obtain⟨j,e3,g3,s3,n3⟩:=jV J.ok g2 (l':=jS root) rfl rfl;have T:stN 3 (.ptr C 0) (.agg (jS root)) H2=some (jQ,j):=e3;have N1:=z.next;have N2:=J.next;have N3:=s3.next
 have p:Prs h j:=(z.trans J).fresh s3 fun B hB=>by omega
 have Y:=o.prs r c p;have up: ∀ {u:Nat} {x:AV},Box h u x->Box j u x:=fun hb=>hb.mono hk p fun x=>x
 have a6:=up y;have a7:=up bt;have a8:=up bf;have a9:=up bp;have hS:(AV.str 0 0)=S []:=rfl;have Z:j.h.get C=some (.cells [.int .i64 root.at_, .int .i64 root.birth, .int .u64 root.sum] 42 1 false):=g3;have r3:ldN 3 (.ptr C 0) j=some (.agg (jS root)):=by rw[jR g3];rfl
 have a0:bxV 42 (.agg [.int .i64 (0:Nat), .int .i64 (0:Nat), .int .u64 (0:Nat)])=some (.cells [.int .i64 (0:Nat), .int .i64 (0:Nat), .int .u64 (0:Nat)] 42 1 false,fun u=> .ptr u 0):=rfl;have b0:d7 .eql (S []) (S [])=some (.bool true):=by rw[zFf];simp
 rcases hL with⟨h0,rfl,rfl⟩ | ⟨hr,H,nd,hh,hq,hv,K⟩
 .refine⟨j,w,q,A, ?_,by simpa[hH]using Y,Awk.prs p⟩;have Wg: ¬(root.at_≠((0:Nat):Int)):=by simp[h0]
  simp(maxSteps:=999999)(disch:=omega) only[f165,zIE,eZ,y.ld,jM gw,e1,a0,b2,T,jM Z,Wg]
 .obtain⟨H4,b1,b3,a2,e4,a1,a4,_,_⟩:=zGj rr ps c a3 H f (f+1) _ _ _ _ _ _ _ _ (by omega) (by omega) hq hv Y (by rw[K];exact hl) a5;rw[K]at a1;refine⟨H4,b1,b3,a2, ?_,a1,(Awk.prs p).trans a4⟩;have Wg:root.at_≠((0:Nat):Int):=by simpa using hr
  simp(maxSteps:=999999)(disch:=omega) only[f165,zIE,eZ,y.ld,jM gw,e1,a0,b2,T,jM Z,Wg,ne_eq,yD,hS,a7.ld,a8.ld,a6.ld,a9.ld,b0,r3,e4]
end
section
variable {σ π:Type}{At N0 k M A1 Aw:Nat}{pv kv:AV}{root:Ptr}{Q:Ptr->Option Nd.Node}{GG:π->AH->(Nat->Prop)->Prop}{pb:π->Ptr->Bool×π}{step:σ->Str×Str->Bool×σ}{I:Nat->Bool×σ->AH->(Nat->Prop)->Prop}
variable (rr: ∀s,Rdr At N0 k root Q (GG s))(ps:Pss N0 pv kv Q GG pb)(c:Cns A1 M N0 encP step I)
include rr ps c
set_option maxRecDepth 100000 in
theorem zFK (m:Nat)(hm:M+620000000<=m){Xw Xf Xt Xp:Nat}{s s':π}{t:σ}{H:AH}{Wg p:Nat->Prop}{left ek:Nat}{L:List (Ptr×Nd.Node)}(b4: ∀t a,(step t a).1=true)(b5:jU pv=[pv])(Z:GG s H Wg)(hi:I (500*left) (true,t) H p)(gw:H.h.get Aw=some (.cells [.ptr At 0,kv, .int .i64 left, .int .i64 (0:Nat)] ek 1 false))(b6:N0<=Aw)(ng: ¬Wg Aw)(ni: ¬p Aw)(sep: ∀B,p B-> ¬Wg B)
  (hL:zR8 Q pb root s L s') (hl:L.length<=left) (b7:left<=1000000000)
  (bw:Box H Xw (.ptr Aw 0)) (bf:Box H Xf (S [])) (bt:Box H Xt (S [])) (bp:Box H Xp pv) (C:N0<=Xf/\N0<=Xt/\ ¬p Xf/\ ¬p Xt/\ ¬Wg Xf/\ ¬Wg Xt):
  ∃H' a3 a4 bo left' b8,f164 (dy m) m [.yT A1, .ptr Xw 0, .ptr Xf 0, .ptr Xt 0, .ptr Xp 0] H=some (.tuple [],H')/\GG s' H' a3/\I (500*left') (bo,hH (fL [] [] step) L t) H' a4/\
   H'.h.get Aw=some (.cells [.ptr At 0,kv, .int .i64 ((left':Nat):Int), .int .i64 (0:Nat)] b8 1 false)/\Stp (fun B=>Wg B\/p B\/B=Aw\/B=Xf\/B=Xt) H H'/\(∀B,a3 B->Wg B\/H.next<=B)/\(∀B,a4 B->p B\/H.next<=B):=by
 have r:=rr s;have r':=rr s';have J:=r.ok Z;have lw:=J.lt gw;obtain⟨H1,j,b1,p1,g1,m1,n1⟩:=box J (.cells [.yT A1] 276 1 false);have N1:=p1.next
 have up: ∀ {H':AH} {A:Nat} {x:AV},Prs H H'->Box H A x->Box H' A x:=fun P hb=>hb.mono J P fun x=>x
 obtain⟨H2,B4,c4,p2,g2,m2,n2⟩:=box p1.ok (.cells [.ptr Aw 0] 207 1 false);obtain⟨H3,B5,c5,p3,g3,m3,n3⟩:=box p2.ok (.cells [S []] 9 1 false);obtain⟨H4,B6,c6,N,g4,m4,n4⟩:=box p3.ok (.cells [S []] 9 1 false);obtain⟨o,B7,c7,u,g5,m5,n5⟩:=box N.ok (.cells [pv] 212 1 false);have N2:=p2.next;have N3:=p3.next;have N4:=N.next;have N5:=u.next
 have y:Prs o (o.push (.loop (lpP true Xf Xt j))):=(zRo u.ok).push _;have g6:(o.push (.loop (lpP true Xf Xt j))).h.get o.next=some (.loop (lpP true Xf Xt j)):=zRg _ _
 have a0: ∀K:Nat->AH->Rs,VN o (.loop ⟨.ready,none,164,0,[2,3,5],[.ptr Xf 0, .ptr Xt 0, .ptr j 0]⟩) K=K o.next (o.push (.loop (lpP true Xf Xt j))):=fun K=>X1 u.ok _ K
 have b9:(o.push (.loop (lpP true Xf Xt j))).next=o.next+1:=rfl
 generalize o.push (.loop (lpP true Xf Xt j))=H6 at y g6 a0 b9;obtain⟨A2,c0⟩: ∃A2,A2=o.next:=⟨_,rfl⟩
 rw[<-c0]at g6 a0;have a5:Prs H1 o:=((p2.trans p3).trans N).trans u;have z:Prs H H6:=(p1.trans a5).trans y;have a6: ∀B,p B->B<H.next/\N0<=B:=fun B f=>c.lt hi B f
 have a8: ∀B,Wg B->B<H.next:=fun B f=>r.lt Z B f
 have lX:Xf<H.next/\Xt<H.next:=⟨bf.lt J,bt.lt J⟩
 have c1:Inn2 I N0 Xf Xt j A1 [] [] (500*left) true t H6 p:=⟨c.frame hi z fun _ x=>x.elim,up z bf,up z bt,⟨_,zRt (a5.trans y) p1.ok g1⟩,⟨C.1,C.2.1,by omega⟩,⟨C.2.2.1,C.2.2.2.1,fun w=>by have:=a6 _ w;omega⟩⟩;have i2:I2 I N0 A2 Xf Xt j A1 [] [] left (true,t) H6 (fun B=>p B\/zPf A2 Xf Xt j B):=⟨p,true,c1,fun _=>rfl,g6,by omega,fun w=>by have:=a6 _ w;omega,fun B=>Iff.rfl⟩;have c2: ∀B:Nat,zPf A2 Xf Xt j B->B≠Aw:=fun B f e=>by
  rcases f with e' | e' | e' | e'
  .omega
  .obtain⟨_,hb⟩:=bf;rw[<-e',e,gw]at hb;simp at hb
  .obtain⟨_,hb⟩:=bt;rw[<-e',e,gw]at hb;simp at hb
  .omega
 have wk:Wp N0 At Aw kv (GG s) (I2 I N0 A2 Xf Xt j A1 [] []) H6 Wg (fun B=>p B\/zPf A2 Xf Xt j B) left left (true,t):=⟨r.frame Z z fun _ x=>x.elim,i2,⟨_,zRt z J gw⟩,b6,ng,fun w=>by
   rcases w with w | w
   .exact ni w
   .exact c2 _ w rfl,fun B f w=>by
   have:=a8 B w;rcases f with e | e | e | e | e
   .exact sep B e w
   .omega
   .subst e;exact C.2.2.2.2.1 w
   .subst e;exact C.2.2.2.2.2 w
   .omega,fun B f=>(ps.nr Z B f).keep z (a8 B f) fun x=>x⟩
 obtain⟨q,rfl⟩: ∃q,m=q+1:=⟨m - 1,by omega⟩;obtain⟨O,c3,d2,l7,e7,Y,a7⟩:=UO rr ps (zId c A2 Xf Xt j [] []).x q (by omega) (zD5 b4) wk hL hl b7 (Xw:=B4) (Xt:=B6) (Xf:=B5) (Xp:=B7) ⟨_,zRt ((p3.trans N).trans (u.trans y)) p2.ok g2⟩ ⟨_,zRt (u.trans y) N.ok g4⟩ ⟨_,zRt (N.trans (u.trans y)) p3.ok g3⟩ ⟨_,zRt y u.ok g5⟩;obtain⟨c8,bo,a1,_,a9,_,c9,b0⟩:=Y.i;obtain⟨d0,b2⟩:=Y.w;have a2:=r'.ok Y.g;have N7:=a7.s.next
 have N6:=y.next
 have T:Stp (fun B=>B=A2) O (O.put A2 .dead):=(zRo a2).put (a2.lt a9) _ (.inr rfl);have b3: ∀K:Option Code->AH->Rs,fT A2 O K=K (lpP true Xf Xt j).pending (O.put A2 .dead):=fun K=>by
  simp only[fT,a9,lpP,zP,qH,kT]
 refine⟨O.put A2 .dead,c3,c8,bo,l7,d0, ?_,r'.frame Y.g T (fun B f=>by subst f;exact⟨by have:=r.lt Z;omega,fun w=>Y.sep _ ((b0 _).2 (.inr (.inl rfl))) w⟩),c.frame a1.i T (fun B f=>by subst f;exact c9),by rw[T.keep _ (a2.lt b2) (by omega)];exact b2, ?_,fun B f=> ?_,fun B f=> ?_⟩
 .have d1:rfC [(107,f107 (dy (q+1)) (q+1)),(79,f79 (dy (q+1)) (q+1))] (dy (q+1)) (.func 165 [] [.ptr B4 0, .ptr B6 0, .ptr B5 0, .ptr B7 0]) A2 H6=some (.tuple [],O):=e7;have hf:f107 (dy (q+1)) (q+1) [.ptr Aw 0,S [],S [],pv] H1=some (.func 165 [] [.ptr B4 0, .ptr B6 0, .ptr B5 0, .ptr B7 0],o):=by
   have x1:jU (.ptr Aw 0)=[.ptr Aw 0]:=rfl;have x2: ∀a,jU (S a)=[S a]:=fun _=>rfl
   simp only[f107,eZ,x1,x2,b5,c4,c5,c6,c7]
  have x0:jU (.yT A1)=[.yT A1]:=rfl;have u1: ∀ {A:Nat} {x:AV},Box H A x->ld1 (.ptr A 0) H1=some x:=fun hb=>(up p1 hb).ld
  simp(maxSteps:=999999)(disch:=omega) only[f164,eZ,x0,b1,u1 bw,u1 bf,u1 bt,u1 bp,hf,a0,d1,b3];rfl
 .refine⟨T.ok,by have:=T.next;omega,fun B f hS=> ?_⟩
  rw[T.keep B (by omega) (by omega),a7.s.keep B (by omega) (fun w=> ?_),z.keep B f fun x=>x];rcases w with w | (w | w | w | w | w) | w
  .exact hS (.inl w)
  .exact hS (.inr (.inl w))
  .omega
  .exact hS (.inr (.inr (.inr (.inl w))))
  .exact hS (.inr (.inr (.inr (.inr w))))
  .omega
  .exact hS (.inr (.inr (.inl w)))
 .exact(a7.g B f).imp id fun e=>by omega
 .rcases a7.i B ((b0 B).2 (.inl f))with(e | e | e | e | e) | e
  .exact .inl e
  .exact .inr (by omega)
  .subst e;exact absurd f a1.nw.1
  .subst e;exact absurd f a1.nw.2.1
  .exact .inr (by omega)
  .exact .inr (by omega)
end
end Go.Eng.Sh
namespace Go.Bt
open Go.Nd (Str Kvs Srt rising)
open Go.Eng (ltS)
def Ord:List (Ptr×Nd.Node)->Prop
 | []=>True
 | x::L=>(∀k∈x.2.kids,k∈L.map Prod.fst)/\Ord L
theorem Ord.app: ∀ {a b:List (Ptr×Nd.Node)},Ord a->Ord b->Ord (a++b)
 | [],_,_,h=>h
 | x::a,b,ha,hb=>⟨fun k f=>by show k∈(a++b).map Prod.fst;rw[List.map_append];exact qU _ (ha.1 k f),Ord.app ha.2 hb⟩
theorem Ord.at: ∀ {L:List (Ptr×Nd.Node)},Ord L-> ∀i (h:i<L.length),∀k∈L[i].2.kids,k∈(L.drop (i+1)).map Prod.fst
 | x::L,h,0,_,k,hk=>h.1 k hk
 | x::L,h,i+1,hi,k,hk=>Ord.at h.2 i (by simpa using hi) k hk
theorem zGl {ks:List Str}(h: ∀k∈ks,mayK k=true):xL ks []=0:=by
 rw[xL,List.length_eq_zero_iff,List.filter_eq_nil_iff];intro k f;have:=h k f
 cases k with
 | nil=>simp[mayK]at this
 | cons a k=>simp[ltS,Op.bytesLess]
theorem zGq {h:Nat}{Q:Ptr->Option Nd.Node}(j: ∀ {nd:Nd.Node} {t:Tr h} {S:List Ptr} {lo hi:Bd},kU Q h nd t S->WF h lo hi t->VP Q h nd):
  ∀ {ps:List Ptr} {ts:List (Tr h)} {S:List Ptr},xT Q (kU Q h) ps ts S->(∀t∈ts,∃lo hi,WF h lo hi t)-> ∀p∈ps,∃f,Q p=some f/\VP Q h f
 | [],[],_,_,_=>by simp
 | p::ps,t::ts,_,⟨nd,S1,S2,a,b,c,e⟩,hw=>fun m hp=>by
  obtain⟨lo,hi,o⟩:=hw t (zJ ..);rcases zK.1 hp with rfl | hp
  .exact⟨nd,a,j b o⟩
  .exact zGq j c (fun t q=>hw t (zC _ q)) m hp
 | [],_::_,_,h,_=>h.elim
 | _::_,[],_,h,_=>h.elim
theorem zM2 (q: ∀ {C:Nd.Node} {h:Tr A} {e:List Ptr} {lo hi:Bd},kU t A C h e->WF A lo hi h->VP t A C)
   {h:Tr (A+1)}  {lo hi:Bd} (f:kU t (A+1) C h e) (a:Inn (WF A) lo hi h) (Q:wK (A+1) h<=500):VP t (A+1) C:=by
 have J:=f.size;obtain⟨r1,m,K,o⟩:=f;have hl:=a.2.2.len;have p:=o.len;refine⟨r1,by rw[p,hl,m],by omega,zGl (fun k u=>(a.1 k (by rw[<-m];exact u)).1),zGq q o fun x y=> ?_⟩;obtain⟨j,z,rfl⟩:=jL y;exact⟨_,_,KB.at a.2.2 (zQ z)⟩
theorem zPC {Q:Ptr->Option Nd.Node} : ∀(h:Nat) {nd:Nd.Node} {t:Tr h} {S:List Ptr} {lo hi:Bd},kU Q h nd t S->WF h lo hi t->VP Q h nd
 | 0,_,_,_,_,_,rn,w=>zGo rn w.2.2
 | h+1,_,_,_,_,_,rn,w=>zM2 (fun a b=>zPC h a b) rn w.1 w.2.2.2
theorem zGp {Q:Tr A}(f:kU t A C Q e)(w:WR A Q):VP t A C:=by
 cases A with
 | zero=>exact zGo f w.2.2
 | succ A=>exact zM2 (fun a b=>zPC A a b) f w.1 w.2.2
section
variable {Q:Ptr->Option Nd.Node}{d:Ptr->Bool}
theorem zBV {h:Nat}(f: ∀ {p:Ptr} {nd:Nd.Node} {t:Tr h} {S:List Ptr},kU Q h nd t S->(c9 Q d h p nd).1.length<=1+S.length):
  ∀ {ps:List Ptr} {ts:List (Tr h)} {S:List Ptr},xT Q (kU Q h) ps ts S->(dP Q (c9 Q d h) ps).1.length<=S.length
 | [],[],_,e=>by subst e;exact zM _
 | p::ps,t::ts,_,⟨nd,S1,S2,a,b,c,e⟩=>by
  subst e;have j:=f (p:=p) b;have m:=zBV f c;simp only[dP,a,zV,zT];omega
 | [],_::_,_,h=>h.elim
 | _::_,[],_,h=>h.elim
theorem zA6: ∀(h:Nat) {p:Ptr} {nd:Nd.Node} {t:Tr h} {S:List Ptr},kU Q h nd t S->(c9 Q d h p nd).1.length<=1+S.length
 | 0,p,nd,t,S,rn=>by
  simp only[c9]
  cases d p
  .simp only[qH,yR];omega
  .simp
 | h+1,p,nd,t,S,rn=>by
  obtain⟨r1,f,j,a⟩:=rn;have m:=zBV (d:=d) (fun b=>zA6 h b) a;simp only[c9]
  cases d p
  .simp only[qH,zT];omega
  .simp
theorem zBW {h:Nat}(f: ∀ {p:Ptr} {nd:Nd.Node} {t:Tr h} {S:List Ptr},kU Q h nd t S->Q p=some nd->(c9 Q (fun _=>false) h p nd).1.map Prod.fst=p::S/\(∀x∈(c9 Q (fun _=>false) h p nd).1,Q x.1=some x.2)):
  ∀ {ps:List Ptr} {ts:List (Tr h)} {S:List Ptr},xT Q (kU Q h) ps ts S->(dP Q (c9 Q (fun _=>false) h) ps).1.map Prod.fst=S/\ ∀x∈(dP Q (c9 Q (fun _=>false) h) ps).1,Q x.1=some x.2
 | [],[],_,e=>by subst e;exact⟨rfl,by simp[dP]⟩
 | p::ps,t::ts,_,⟨nd,S1,S2,a,b,c,e⟩=>by
  subst e;obtain⟨o,j⟩:=f (p:=p) b a;obtain⟨q,m⟩:=zBW f c;simp only[dP,a];refine⟨by rw[List.map_append,o,q];rfl,fun x u=> ?_⟩;rcases qA.1 u with h | h
  .exact j x h
  .exact m x h
 | [],_::_,_,h=>h.elim
 | _::_,[],_,h=>h.elim
theorem zDW: ∀(h:Nat) {p:Ptr} {nd:Nd.Node} {t:Tr h} {S:List Ptr},kU Q h nd t S->Q p=some nd->(c9 Q (fun _=>false) h p nd).1.map Prod.fst=p::S/\(∀x∈(c9 Q (fun _=>false) h p nd).1,Q x.1=some x.2)
 | 0,p,nd,t,S,rn,hq=>by
  obtain⟨rfl,rfl⟩:=rn;simp only[c9,qH];exact⟨rfl,fun x f=>by rw[qS.1 f];exact hq⟩
 | h+1,p,nd,t,S,rn,hq=>by
  obtain⟨r1,q,u,j⟩:=rn;obtain⟨m,o⟩:=zBW (fun a b=>zDW h a b) j;simp only[c9,qH];refine⟨by rw[yJ,m],fun x f=> ?_⟩;rcases zK.1 f with rfl | f
  .exact hq
  .exact o x f
end
end Go.Bt
namespace Go.Eng.Sh
open Go.Nd (Kvs Srt Str)
open Go.Bt
def K0 (s:Kvs)(x:Str×Str):Bool×Kvs:=(true,s++[x])
theorem zMp: ∀(l a:Kvs),hH K0 l a=a++l
 | [],a=>by simp[hH]
 | x::l,a=>by
  show hH K0 l (a++[x])=_;rw[zMp l,zZ];rfl
theorem zD4 (step:g->Str×Str->Bool×g):vH [] step=step:=by
 funext s x;simp only[vH,zCR,zP]
theorem UT: ∀(L:List (Ptr×Nd.Node)) (a:Kvs),hH (fL [] [] K0) L a=a++L.flatMap (gK [])
 | [],a=>by simp[hH]
 | x::L,a=>by
  show hH (fL [] [] K0) L (fL [] [] K0 a x).2=_;have f:(fL [] [] K0 a x).2=a++gK [] x:=by
   show(WQ (vH [] K0) (gK [] x) a).2=_;rw[zD4,zBx (fun _ _=>rfl),zMp]
  rw[f,UT L,zZ,qJ]
theorem zM3 (q:vD R V E l e)(j:l.length<=1000000000){pb:g->Ptr->Bool×g}{d:Ptr->Bool}(m: ∀s p,(pb s p).1=d p)(o: ∀s p,d p=false->(pb s p).2=s)(s:g):
  ∃L P,zR8 (Qf R V []) pb E s L ((xN P).foldl (fun s p=>(pb s p).2) s)/\L.length<=8192+V.length/\Pcs (Qf R V []) d P/\Q0 P=l/\zDO P=e/\vL P=L.flatMap (gK []):=by
 rcases q with⟨rfl,rfl,rfl⟩ | ⟨h,nd,t,N,a,f,wr,nd0,rfl,rfl⟩
 .exact⟨[],[], .inl ⟨rfl,rfl,rfl⟩,by simp,⟨by simp,by simp⟩,rfl,rfl,rfl⟩
 .obtain⟨_,J⟩:=UC a f wr nd0;have K:=zLY a;obtain⟨P,u,x,y,z,C⟩:=zEm (d:=d) h f a;have hl:=zA6 (d:=d) h (p:=E) f;refine⟨(c9 (Qf R V []) d h E nd).1,P, .inr ⟨by omega,h,nd,by have:=wr.low j;omega,a,zGp f wr, ?_⟩,by omega,u,x,y,z⟩;rw[zNa m o,C]
theorem zN9 (q:vD R V E l e)(j:l.length<=1000000000):
  ∃L,zR8 (Qf R V []) (fun(s:Unit) _=>(false,s)) E () L ()/\L.length<=8192+V.length/\L.map Prod.fst=e/\ ∀x∈L,Qf R V [] x.1=some x.2:=by
 rcases q with⟨rfl,rfl,rfl⟩ | ⟨h,nd,t,z,a,f,wr,nd0,rfl,rfl⟩
 .exact⟨[], .inl ⟨rfl,rfl,rfl⟩,by simp,rfl,by simp⟩
 .obtain⟨_,u⟩:=UC a f wr nd0;have y:=zLY a;obtain⟨m,o⟩:=zDW h f a;have hl:=zA6 (d:=fun _=>false) h (p:=E) f;exact⟨(c9 (Qf R V []) (fun _=>false) h E nd).1, .inr ⟨by omega,h,nd,by have:=wr.low j;omega,a,zGp f wr,zNa (pb:=fun(s:Unit) _=>(false,s)) (d:=fun _=>false) (fun _ _=>rfl) (fun _ _ _=>rfl) h () E nd⟩,by omega,m,o⟩
end Go.Eng.Sh
namespace Go.Eng
end Go.Eng
namespace Go.Eng.Sh
open Go.Nd (Kvs Srt Str putP delP lookP)
open Go.Bt
def Tl (H:AH)(r:AV)(a:Kvs):Prop:=(a=[]/\Rw 2 H r 0 [])\/ ∃A i l e,r= .slice A (i*2) a.length (1+2*i)/\H.h.get A=some (.cells l e 2 true)/\A<H.next/\l.length=(i+a.length)*2/\l.drop (i*2)=a.flatMap prV/\a≠[]
theorem Tl.prs {H H':AH}{r:AV}{a:Kvs}(h:Tl H r a)(f:H.ok)(s:Prs H H'):Tl H' r a:=by
 rcases h with h | ⟨A,i,l,e,j,m,o,p⟩
 .exact .inl ⟨h.1,Rw.prs h.2 s⟩
 .exact .inr ⟨A,i,l,e,j,zRt s f m,qG o s.next,p⟩
theorem Tl.row (H:Tl h p l):VQ h p l:=by
 rcases H with⟨rfl,H⟩ | ⟨A,i,a,e,rfl,f,j,m,o,r⟩
 .exact H
 .refine⟨QW l, .inr (.inr ⟨A,i*2,_,a,e,2,true,rfl,f,j,by rw[m];omega, ?_⟩)⟩;rw[o,zY (by rw[QW];exact zM _)]
theorem Tl.own (H:Own 2 A h p B (l.flatMap prV))(j:B=l.length)(q:h.ok):Tl h p l:=by
 subst j;by_cases f:l=[]
 .subst f;exact .inl ⟨rfl,H.row⟩
 .rcases H with⟨_,⟨rfl,m⟩ | ⟨e,rfl,o,n⟩⟩
  .exact absurd (zW (by simpa using m)) f
  .exact .inr ⟨e,0,_,A,by simp,n,o,by rw[QW];simp,by simp,f⟩
theorem Tl.next {x:Str×Str}(H:Tl h p (x::l))(q:h.ok): ∃t,(∀H',Prs h H'->vN 2 p (some (.int .i64 (1:Nat))) none none H'=some t)/\Tl h t l:=by
 rcases H with⟨H,_⟩ | ⟨A,i,a,e,rfl,f,K,u,N,S⟩
 .cases H
 .have j:=kL .i64 (z:=((1:Nat):Int)) (by omega);simp only[yC]at j;have r:kQ a true 2 (i*2) (1+2*i) 2=l.length+1:=by
   have O:((1+2*i) % 2).beq 0=false:=by rw[qY];intro H;have:=Nat.eq_of_beq_eq_true H;omega
   have hd:(1+2*i) / 2=i:=by omega
   simp only[kQ,O,qH,hd,yF,qP,zP,jY,u,zT];omega
  have b1:Nat.ble (l.length+1) (l.length+1)=true:=by rw[qW];exact zM _
  have b2:Nat.ble 1 (l.length+1)=true:=by rw[qW];omega
  have y:((1+2*i) % 2).beq 0=false:=by rw[qY];intro H;have:=Nat.eq_of_beq_eq_true H;omega
  have C:Nat.beq 1 0=false:=rfl;have J:Nat.blt 0 2=true:=rfl;by_cases m:l=[]
  .subst m;refine⟨.eS,fun H' s=> ?_, .inl ⟨rfl,⟨by simp, .inr (.inl ⟨rfl,rfl⟩)⟩⟩⟩;have o:Nat.blt 1 (([]:Kvs).length+1)=false:=rfl;simp only[vN,kY,j,zRt s q f,J,zP,zT];simp only[JC,y9,Option.getD_none,r,b1,b2,qP,zP,y,qH,C,o]
  .have hl:0<l.length:=List.length_pos_iff.2 m;have o:Nat.blt 1 (l.length+1)=true:=by rw[qE];omega
   refine⟨.slice A ((i+1)*2) l.length (1+2*(i+1)),fun H' s=> ?_, .inr ⟨A,i+1,a,e,rfl,f,K,by rw[u,zT];omega, ?_,m⟩⟩
   .simp only[vN,kY,j,zRt s q f,J,zP,zT];simp only[JC,y9,Option.getD_none,r,b1,b2,qP,zP,y,qH,C,o,kF];rw[show i*2+1*2=(i+1)*2 by omega,show l.length+1 - 1=l.length by omega,show 1+2*i+2*1=1+2*(i+1)by omega]
   .rw[show(i+1)*2=i*2+2 by omega,<-List.drop_drop,N,qJ,yX (show(prV x).length=2 from rfl)]
theorem zKY(s:Str):f206 D n [S s] h=some (.bool false,h):=by
 have H:d7 .neq (S s) (S s)=some (.bool false):=by rw[vE];simp
 simp(maxSteps:=999999)(disch:=omega) only[f206,eZ,H]
def zPg (k j:Str):Int:=if ltS k j=true then -1 else if ltS j k=true then 1 else 0
theorem zQV(k j:Str):f167 D n [S k,S j] h=some (.int .i64 (zPg k j),h):=by
 have hb: ∀x y:Rs,cnd (.bool false) x y=y:=fun _ _=>rfl
 have f: ∀x y:Rs,cnd (.bool true) x y=x:=fun _ _=>rfl
 have q1:d7 .lss (S k) (S j)=some (.bool (ltS k j)):=gU ..;have q2:d7 .gtr (S k) (S j)=some (.bool (ltS j k)):=by
  have hl:=zLD k j;simp only[d7,S,VZ,wD,aJ,ltS]at hl⊢;have a:=AV.bool.inj (qT hl);rw[a,Bool.not_not]
 rw[zPg]
 cases H:ltS k j<;>cases a:ltS j k<;>rw[H]at q1<;>rw[a]at q2<;>simp(maxSteps:=999999)(disch:=omega) only[f167,eZ,zKY,hb,f,q1,q2,if_true,qD,zL]<;>rfl
def chkS (s:Str)(K:Rs):chk (some (S s)) (S s) K=K:=kW rfl (by simp[aveq,S])
def cgV (c:Cg):List AV:=[S c.k,S c.old,S c.new, .bool c.had, .bool c.has]
theorem st5 (a:h.ok)(o:Nat)(l':List AV)(y:AV)(hl:l'=P.set o y)(f:o<P.length)(g:h.h.get A=some (.cells P B 1 false))(j:isCell y=true): ∃H',stN 1 (.ptr A o) y h=some (jQ,H')/\H'.h.get A=some (.cells l' B 1 false)/\Stp (fun H=>H=A) h H'/\H'.next=h.next:=by
 subst hl;exact xM a g (o:=o) (x:=y) j f
structure Hd (H0:AH)(r:AV)(k v:Str)(a:Kvs)(r':AV)(A o:Nat):Prop where
 ix:dV 2 r (.int .i64 (0:Nat))=some (.ptr A o)
 ky: ∀ {G:AH},Prs H0 G->Eng.ld1 (.ptr A (o+0)) G=some (S k)
 vl: ∀ {G:AH},Prs H0 G->Eng.ld1 (.ptr A (o+1)) G=some (S v)
 nx: ∀ {G:AH},Prs H0 G->vN 2 r (some (.int .i64 (1:Nat))) none none G=some r'
 tl:Tl H0 r' a
theorem Tl.hd (f:h.ok){k v:Str}(H0:Tl h p ((k,v)::l)): ∃j A o,Hd h p k v l j A o:=by
 obtain⟨j,m,q⟩:=H0.next f
 obtain⟨A,o,t,_,u,x⟩:=H0.row.at (show 0< ((k,v)::l).length by simp);exact⟨j,A,o,t .i64 _ rfl,fun r=>QT f r u,fun r=>QT f r x,fun r=>m _ r,q⟩
structure Cacc (H0 H:AH)(v:AV)(acc:List Cg):Prop where
 prs:Prs H0 H
 g:kZ 5 133 H v acc.length (acc.flatMap cgV)
 f: ∀B,Blk v B->H0.next<=B
theorem Cacc.add {H:AH}{acc:List Cg}(H0:Cacc h H p acc)(v:Prs H L)(c:Cg)(hl:acc.length<=1000000): ∃a A1 j o,(∀(t:Nat->AV) (K:AV->AH->Rs),bA (some (.cells (cgV c) 133 5 false,t)) L K=K (t A1) a)/\apP 133 5 56 p (.slice A1 0 1 2) a=some (j,o)/\Cacc h o j (acc++[c]):=by
 obtain⟨a,A1,b1,q,y,S,T⟩:=box v.ok (.cells (cgV c) 133 5 false);have u:srcOf 5 (.slice A1 0 1 2) a=some (1,cgV c):=by simp only[srcOf,y];rfl
 obtain⟨j,o,z,C,J,N⟩:=(H0.g.mono (v.trans q) fun _ _ x=>x).app (bytes:=56) (m:=1) (new:=cgV c) q.ok (by decide) u rfl rfl (by omega) (by decide);have N0:=H0.prs.next;have Y:=v.next;have N1:=q.next
 refine⟨a,A1,j,o,b1,z,((H0.prs.trans v).trans q).fresh J H0.f, ?_,fun B O=> ?_⟩
 .rw[zV,yR,yV,qJ,List.flatMap_nil,yB];exact C
 .rcases N B O with e | e
  .exact H0.f B e
  .omega
section
variable (D:Dyn)(n:Nat){H0 H:AH}{r0 r1 v:AV}{acc:List Cg}
theorem zGx (h:Cacc H0 H v acc){k w:Str}(x:Hd H0 r0 k w l p A B)(hl:acc.length<=1000000): ∃H' f,cU D n [r0,r1,v, .int .i64 (-1)] H=some (.norm [p,r1,f],H')/\Cacc H0 H' f (acc++[⟨k,w,[],true,false⟩]):=by
 obtain⟨K,N,b1,j,O,m1,n1⟩:=box h.prs.ok (.cells [.str 0 0, .str 0 0, .str 0 0, .bool false, .bool false] 133 1 false);have J:bxV 133 (.agg [.str 0 0, .str 0 0, .str 0 0, .bool false, .bool false])=some (.cells [.str 0 0, .str 0 0, .str 0 0, .bool false, .bool false] 133 1 false,fun A=> .ptr A 0):=rfl;have N0:=h.prs.next;have N1:=j.next
 obtain⟨T,Y,Z,a,n2⟩:=st5 j.ok 0 [S k, .str 0 0, .str 0 0, .bool false, .bool false] (S k) rfl (by simp) O rfl;obtain⟨H3,e3,g3,q,n3⟩:=st5 a.ok 1 [S k,S w, .str 0 0, .bool false, .bool false] (S w) rfl (by simp) Z rfl;obtain⟨t,e4,g4,s4,n4⟩:=st5 q.ok 3 [S k,S w, .str 0 0, .bool true, .bool false] (.bool true) rfl (by simp) g3 rfl;have u:Prs H0 K:=h.prs.trans j;have y:Prs H T:=j.fresh a fun m z=>by omega
 have Q3:Prs H H3:=y.fresh q fun m z=>by omega
 have C:Prs H t:=Q3.fresh s4 fun m z=>by omega
 obtain⟨H5,A5,f,H6,b5,e6,h6⟩:=h.add C ⟨k,w,[],true,false⟩ hl;refine⟨H6,f, ?_,h6⟩;have i1:(-1:Int)<=((0:Nat):Int):=by omega
 have i2: ¬((0:Nat):Int)<=(-1:Int):=by omega
 have i3:(-1:Int)≠((0:Nat):Int):=by omega
 have r4:ldN 5 (.ptr N 0) t=some (.agg (cgV ⟨k,w,[],true,false⟩)):=xB g4 rfl;have bl:dW 133 5 1 [.str 0 0, .str 0 0, .str 0 0, .bool false, .bool false] [(0, .agg (cgV ⟨k,w,[],true,false⟩))]=some (.cells (cgV ⟨k,w,[],true,false⟩) 133 5 false,fun A=> .slice A 0 1 2):=rfl;simp(maxSteps:=999999)(disch:=omega) only[cU,JP,Y2,ZC,eZ,J,b1,i1,i2,i3,ne_eq,yD,x.ix,x.ky u,x.vl u,Y,chkS,x.vl (h.prs.trans y),e3,e4,x.nx (h.prs.trans C),r4,bl,b5,e6,decide_true,Bool.true_or,eq_self,Bool.true_eq_false,if_true,qD]
theorem zGy (h:Cacc H0 H v acc){k w:Str}(x:Hd H0 r1 k w l p A B)(hl:acc.length<=1000000): ∃H' f,cU D n [r0,r1,v, .int .i64 (1:Nat)] H=some (.norm [r0,p,f],H')/\Cacc H0 H' f (acc++[⟨k,[],w,false,true⟩]):=by
 obtain⟨K,N,b1,j,O,m1,n1⟩:=box h.prs.ok (.cells [.str 0 0, .str 0 0, .str 0 0, .bool false, .bool false] 133 1 false);have J:bxV 133 (.agg [.str 0 0, .str 0 0, .str 0 0, .bool false, .bool false])=some (.cells [.str 0 0, .str 0 0, .str 0 0, .bool false, .bool false] 133 1 false,fun A=> .ptr A 0):=rfl;have N0:=h.prs.next;have N1:=j.next
 obtain⟨T,Y,Z,a,n2⟩:=st5 j.ok 0 [S k, .str 0 0, .str 0 0, .bool false, .bool false] (S k) rfl (by simp) O rfl;obtain⟨H3,e3,g3,q,n3⟩:=st5 a.ok 2 [S k, .str 0 0,S w, .bool false, .bool false] (S w) rfl (by simp) Z rfl;obtain⟨t,e4,g4,s4,n4⟩:=st5 q.ok 4 [S k, .str 0 0,S w, .bool false, .bool true] (.bool true) rfl (by simp) g3 rfl;have u:Prs H0 K:=h.prs.trans j;have y:Prs H T:=j.fresh a fun m z=>by omega
 have Q3:Prs H H3:=y.fresh q fun m z=>by omega
 have C:Prs H t:=Q3.fresh s4 fun m z=>by omega
 obtain⟨H5,A5,f,H6,b5,e6,h6⟩:=h.add C ⟨k,[],w,false,true⟩ hl;refine⟨H6,f, ?_,h6⟩;have i1: ¬((1:Nat):Int)<=((0:Nat):Int):=by omega
 have i2:((0:Nat):Int)<=((1:Nat):Int):=by omega
 have i3:((1:Nat):Int)≠((0:Nat):Int):=by omega
 have r4:ldN 5 (.ptr N 0) t=some (.agg (cgV ⟨k,[],w,false,true⟩)):=xB g4 rfl;have bl:dW 133 5 1 [.str 0 0, .str 0 0, .str 0 0, .bool false, .bool false] [(0, .agg (cgV ⟨k,[],w,false,true⟩))]=some (.cells (cgV ⟨k,[],w,false,true⟩) 133 5 false,fun A=> .slice A 0 1 2):=rfl;simp(maxSteps:=999999)(disch:=omega) only[cU,JP,Y2,ZC,eZ,J,b1,i1,i2,i3,ne_eq,yD,x.ix,x.ky u,x.vl u,Y,chkS,x.vl (h.prs.trans y),e3,e4,x.nx (h.prs.trans C),r4,bl,b5,e6,decide_true,Bool.true_or,eq_self,Bool.true_eq_false,if_true,qD]
theorem zK7 (h:Cacc H0 H v acc){k w z:Str}(x:Hd H0 r0 k w l p A B)(y:Hd H0 r1 k z m f N Y)(hl:acc.length<=1000000): ∃H' C,cU D n [r0,r1,v, .int .i64 (0:Nat)] H=some (.norm [p,f,C],H')/\Cacc H0 H' C (if w=z then acc else acc++[⟨k,w,z,true,true⟩]):=by
 obtain⟨H1,r',b1,J,g1,m1,n1⟩:=box h.prs.ok (.cells [.str 0 0, .str 0 0, .str 0 0, .bool false, .bool false] 133 1 false);have a0:bxV 133 (.agg [.str 0 0, .str 0 0, .str 0 0, .bool false, .bool false])=some (.cells [.str 0 0, .str 0 0, .str 0 0, .bool false, .bool false] 133 1 false,fun A=> .ptr A 0):=rfl;have N0:=h.prs.next;have N1:=J.next
 obtain⟨H2,e2,g2,s2,n2⟩:=st5 J.ok 0 [S k, .str 0 0, .str 0 0, .bool false, .bool false] (S k) rfl (by simp) g1 rfl;obtain⟨H3,e3,g3,s3,n3⟩:=st5 s2.ok 1 [S k,S w, .str 0 0, .bool false, .bool false] (S w) rfl (by simp) g2 rfl;obtain⟨H4,e4,g4,s4,n4⟩:=st5 s3.ok 3 [S k,S w, .str 0 0, .bool true, .bool false] (.bool true) rfl (by simp) g3 rfl;obtain⟨H5,e5,g5,s5,n5⟩:=st5 s4.ok 0 [S k,S w, .str 0 0, .bool true, .bool false] (S k) rfl (by simp) g4 rfl;obtain⟨H6,e6,g6,s6,n6⟩:=st5 s5.ok 2 [S k,S w,S z, .bool true, .bool false] (S z) rfl (by simp) g5 rfl;obtain⟨a,e7,O,s7,n7⟩:=st5 s6.ok 4 [S k,S w,S z, .bool true, .bool true] (.bool true) rfl (by simp) g6 rfl;have K:Prs H0 H1:=h.prs.trans J;have T:Prs H H2:=J.fresh s2 fun N b=>by omega
 have Q3:Prs H H3:=T.fresh s3 fun N b=>by omega
 have j:Prs H H4:=Q3.fresh s4 fun N b=>by omega
 have r2:Prs H H5:=j.fresh s5 fun N b=>by omega
 have Q6:Prs H H6:=r2.fresh s6 fun N b=>by omega
 have t:Prs H a:=Q6.fresh s7 fun N b=>by omega
 have i1:((0:Nat):Int)<=((0:Nat):Int):=by omega
 have i3: ¬(((0:Nat):Int)≠((0:Nat):Int)):=by omega
 have f1:Eng.ld1 (.ptr r' 1) a=some (S w):=by rw[jM O];rfl
 have f2:Eng.ld1 (.ptr r' 2) a=some (S z):=by rw[jM O];rfl
 have r4:ldN 5 (.ptr r' 0) a=some (.agg (cgV ⟨k,w,z,true,true⟩)):=xB O rfl;have bl:dW 133 5 1 [.str 0 0, .str 0 0, .str 0 0, .bool false, .bool false] [(0, .agg (cgV ⟨k,w,z,true,true⟩))]=some (.cells (cgV ⟨k,w,z,true,true⟩) 133 5 false,fun A=> .slice A 0 1 2):=rfl;by_cases u:w=z
 .have Z:d7 .neq (S w) (S z)=some (.bool false):=by rw[vE];simp[u]
  rw[if_pos u];refine⟨a,v, ?_,⟨h.prs.trans t,h.g.mono t fun _ _ x=>x,h.f⟩⟩;simp(maxSteps:=999999)(disch:=omega) only[cU,JP,Y2,ZC,eZ,a0,b1,i1,i3,x.ix,x.ky K,x.vl K,e2,chkS,x.vl (h.prs.trans T),e3,e4,x.nx (h.prs.trans j),y.ix,y.ky (h.prs.trans j),y.vl (h.prs.trans j),e5,y.vl (h.prs.trans r2),e6,e7,y.nx (h.prs.trans t),f1,f2,Z,decide_true,decide_false,Bool.true_or,Bool.false_or,eq_self,Bool.true_eq_false,zL,if_true,qD]
 .have Z:d7 .neq (S w) (S z)=some (.bool true):=by rw[vE];simp[u]
  rw[if_neg u];obtain⟨H8,A8,C,H9,b8,e9,h9⟩:=h.add t ⟨k,w,z,true,true⟩ hl;refine⟨H9,C, ?_,h9⟩;simp(maxSteps:=999999)(disch:=omega) only[cU,JP,Y2,ZC,eZ,a0,b1,i1,i3,x.ix,x.ky K,x.vl K,e2,chkS,x.vl (h.prs.trans T),e3,e4,x.nx (h.prs.trans j),y.ix,y.ky (h.prs.trans j),y.vl (h.prs.trans j),e5,y.vl (h.prs.trans r2),e6,e7,y.nx (h.prs.trans t),f1,f2,Z,r4,bl,b8,e9,decide_true,decide_false,Bool.true_or,Bool.false_or,eq_self,Bool.true_eq_false,zL,if_true,qD]
end
theorem Tl.lnSl {H:AH}{r:AV}{a:Kvs}(h:Tl H r a):lnSl r=some (.int .i64 a.length):=Rw.lnSl (show VQ H r a from h.row)
theorem aI (D:Dyn)(n:Nat){H0:AH}(J:H0.ok): ∀(a b:Kvs) (acc:List Cg) (r0 r1 v:AV) (H:AH) (f:Nat),Tl H0 r0 a->Tl H0 r1 b->Cacc H0 H v acc->a.length+b.length+acc.length<=1000000->a.length+b.length<f->
  ∃H' v',kJ f (JO D n) [r0,r1,v] H=some (.exit 0 [v'],H')/\Cacc H0 H' v' (acc++Bt.chg a b)
 | [],[],acc,r0,r1,v,H,f,t0,t1,h,hl,hf=>by
  obtain⟨k,rfl⟩: ∃k,f=k+1:=⟨f - 1,by omega⟩;have p:=t0.lnSl;have l1:=t1.lnSl;rw[yG]at p l1;refine⟨H,v,jW ?_,by rw[Bt.chg,yB];exact h⟩;simp(maxSteps:=999999)(disch:=omega) only[JO,eZ,p,l1,y7,decide_false]
 | (k,w)::a,[],acc,r0,r1,v,H,f,t0,t1,h,hl,hf=>by
  obtain⟨f,rfl⟩: ∃k,f=k+1:=⟨f - 1,by omega⟩;have p:=t0.lnSl;have l1:=t1.lnSl;obtain⟨S,A,o,x⟩:=Tl.hd J t0;simp only[zT,yG]at hl hf p l1;obtain⟨t,u,C,K⟩:=zGx D n h x (r1:=r1) (by omega);obtain⟨N,v2,O,m⟩:=aI D n J a [] _ S r1 u t f x.tl t1 K (by simp;omega) (by simp;omega);have Y:((0:Nat):Int)< ((a.length+1:Nat):Int):=by omega
  have z0: ¬((a.length+1:Nat):Int)=((0:Nat):Int):=by omega
  refine⟨N,v2, ?_,by rw[Bt.chg];rw[zZ]at m;exact m⟩;rw[kD (vs':=[S,r1,u]) (H':=t)]
  .exact O
  .simp(maxSteps:=999999)(disch:=omega) only[JO,ZD,eZ,p,l1,Y,z0,decide_true,decide_false];exact C
 | [],(j,w)::b,acc,r0,r1,v,H,f,t0,t1,h,hl,hf=>by
  obtain⟨f,rfl⟩: ∃k,f=k+1:=⟨f - 1,by omega⟩;have p:=t0.lnSl;have l1:=t1.lnSl;obtain⟨S,A,o,x⟩:=Tl.hd J t1;simp only[zT,yG]at hl hf p l1;obtain⟨t,u,C,K⟩:=zGy D n h x (r0:=r0) (by omega);obtain⟨N,v2,O,m⟩:=aI D n J [] b _ r0 S u t f t0 x.tl K (by simp;omega) (by simp;omega);have Y:((0:Nat):Int)< ((b.length+1:Nat):Int):=by omega
  refine⟨N,v2, ?_,by rw[Bt.chg];rw[zZ]at m;exact m⟩;rw[kD (vs':=[r0,S,u]) (H':=t)]
  .exact O
  .simp(maxSteps:=999999)(disch:=omega) only[JO,ZD,eZ,p,l1,Y,y7,decide_true,decide_false,C]
 | (k,w)::a,(j,z)::b,acc,r0,r1,v,H,f,t0,t1,h,hl,hf=>by
  obtain⟨f,rfl⟩: ∃k,f=k+1:=⟨f - 1,by omega⟩;have p:=t0.lnSl;have l1:=t1.lnSl;obtain⟨S,A,o,x⟩:=Tl.hd J t0;obtain⟨r2,B,q,y⟩:=Tl.hd J t1;simp only[zT]at hl hf p l1;have Y:((0:Nat):Int)< ((a.length+1:Nat):Int):=by omega
  have z0: ¬((a.length+1:Nat):Int)=((0:Nat):Int):=by omega
  have g1:((0:Nat):Int)< ((b.length+1:Nat):Int):=by omega
  have z1: ¬((b.length+1:Nat):Int)=((0:Nat):Int):=by omega
  have body: ∀ {vs':List AV} {H':AH},cU D n [r0,r1,v, .int .i64 (zPg k j)] H=some (.norm vs',H')->JO D n [r0,r1,v] H=some (.norm vs',H'):=fun C=>by
   simp(maxSteps:=999999)(disch:=omega) only[JO,ZD,eZ,p,l1,Y,z0,g1,z1,decide_true,decide_false,x.ix,y.ix,x.ky h.prs,y.ky h.prs,zQV,C]
  rw[Bt.chg];by_cases T:ltS k j=true
  .rw[if_pos T];obtain⟨t,u,C,K⟩:=zGx D n h x (r1:=r1) (by omega);obtain⟨N,v2,O,m⟩:=aI D n J a ((j,z)::b) _ S r1 u t f x.tl t1 K (by simp;omega) (by simp;omega);exact⟨N,v2,by rw[kD (body (by rw[zPg,if_pos T];exact C))];exact O,by rw[zZ]at m;exact m⟩
  .rw[if_neg T];by_cases Z:ltS j k=true
   .rw[if_pos Z];obtain⟨t,u,C,K⟩:=zGy D n h y (r0:=r0) (by omega);obtain⟨N,v2,O,m⟩:=aI D n J ((k,w)::a) b _ r0 r2 u t f t0 y.tl K (by simp;omega) (by simp;omega);exact⟨N,v2,by rw[kD (body (by rw[zPg,if_neg T,if_pos Z];exact C))];exact O,by rw[zZ]at m;exact m⟩
   .rw[if_neg Z];have a1:k=j:=xK (by simpa using T) (by simpa using Z);subst a1;obtain⟨t,u,C,K⟩:=zK7 D n h x y (by omega);obtain⟨N,v2,O,m⟩:=aI D n J a b _ S r2 u t f x.tl y.tl K (by split<;>(try simp only[zV,yR])<;>omega) (by omega)
    refine⟨N,v2,by rw[kD (body (by rw[zPg,if_neg T,if_neg T];exact C))];exact O, ?_⟩;split at m
    .rename_i a0;rw[if_pos a0];exact m
    .rename_i a0;rw[if_neg a0];rw[zZ]at m;exact m
termination_by a b=>a.length+b.length
theorem zGw(a:h.ok)(t0:Tl h p l)(t1:Tl h f m)(hl:l.length+m.length<=1000000)(j:l.length+m.length<n):
  ∃H' v,f115 D n [p,f] h=some (v,H')/\Cacc h H' v (Bt.chg l m):=by
 obtain⟨H',v,e,H⟩:=aI D n a l m [] p f .nS h n t0 t1 ⟨zRo a, .inl ⟨rfl, .inl ⟨rfl,rfl⟩⟩,fun B ⟨_,_,_,hB⟩=>by cases hB⟩ (by simpa using hl) j;refine⟨H',v, ?_,by simpa using H⟩;simp(maxSteps:=999999)(disch:=omega) only[f115,zMQ,eZ,e]
def kP (p:Ptr):AV:= .agg (jS p)
theorem zFn (h:aveq (kP E) p=true):p=kP E:=by
 have key: ∀ {l:List AV},aZ (jS E) l=true->l=jS E:=by
  intro l h;rcases l with _ | ⟨p,_ | ⟨b,_ | ⟨c,_ | ⟨d,l⟩⟩⟩⟩<;>simp only[jS,aZ,zE,zL,and_false]at h;rw[KQ h.1,KQ h.2.1,KQ h.2.2.1];rfl
 cases p<;>simp only[kP,aveq,zL]at h
 rw[key h];rfl
theorem zCI (p q:Ptr):aveq (kP p) (kP q)=decide (p=q):=by
 rw[yI,zR];constructor
 .intro h;have:=zFn h
  cases p;cases q
  simp only[kP,jS,AV.agg.injEq,y8,AV.int.injEq,true_and,and_true]at this;obtain⟨rfl,rfl,rfl⟩:=this;rfl
 .rintro rfl
  simp[kP,jS,aveq,aZ,xX,xY]
theorem zCb {m:Ptr}{v:AV} : ∀ {es es':List (AV×AV)},K1 (kP m) v es=some es'-> ∀j:Ptr,wB (kP j) es'=if j=m then some v else wB (kP j) es
 | [],_,h,_=>by cases h
 | (a,b)::es,es',h,j=>by
  simp only[K1]at h
  cases e:aveq (kP m) a with
  | true=>
   rw[e]at h;have p:=zFn e;subst p;obtain rfl:=qT h;simp only[wB,zCI];by_cases f:j=m
   .simp[f]
   .simp[f]
  | false=>
   rw[e]at h;simp only[qH]at h
   cases o:K1 (kP m) v es with
   | none=>rw[o]at h;cases h
   | some r=>
    rw[o]at h;obtain rfl:=qT h;have q:=zCb o j;simp only[wB,q];by_cases f:j=m
    .subst f;simp[e]
    .simp[f]
theorem zBq {m:Ptr}{v:AV} : ∀ {es:List (AV×AV)},K1 (kP m) v es=none-> ∀j:Ptr,wB (kP j) (es++[(kP m,v)])=if j=m then some v else wB (kP j) es
 | [],_,j=>by
  simp only[qX,wB,zCI];by_cases f:j=m<;>simp[f]
 | (a,b)::es,h,j=>by
  simp only[K1]at h
  cases e:aveq (kP m) a with
  | true=>rw[e]at h;cases h
  | false=>
   rw[e]at h;simp only[qH]at h
   cases o:K1 (kP m) v es with
   | some r=>rw[o]at h;cases h
   | none=>
    have p:=zBq o j;simp only[qF,wB,p];by_cases f:j=m
    .subst f;simp[e]
    .simp[f]
theorem keyP (p:Ptr):xO (1::[6,6,10]) (kP p)=true:=rfl
theorem zM4 (a:h.ok)(H:h.h.get A=some (.map (1::[6,6,10]) F))(m:Ptr)(v:AV):
  ∃H' es',upM (1::[6,6,10]) (.map A) (kP m) v h=some (jQ,H')/\H'.h.get A=some (.map (1::[6,6,10]) es')/\(∀j:Ptr,wB (kP j) es'=if j=m then some v else wB (kP j) F)/\Stp (fun B=>B=A) h H'/\H'.next=h.next:=by
 have o:Y4 (1::[6,6,10]) (1::[6,6,10])=true:=rfl
 cases f:K1 (kP m) v F with
 | some es'=>
  refine⟨h.put A (.map (1::[6,6,10]) es'),es', ?_,by rw[zRk,if_pos rfl],zCb f,(zRo a).put (a.lt H) _ (.inr rfl),rfl⟩;simp only[upM,keyP,zP,H,o,f,kT]
 | none=>
  refine⟨h.put A (.map (1::[6,6,10]) (F++[(kP m,v)])),_, ?_,by rw[zRk,if_pos rfl],zBq f,(zRo a).put (a.lt H) _ (.inr rfl),rfl⟩;simp only[upM,keyP,zP,H,o,f,kT]
theorem zHZ (H:h.h.get A=some (.map (1::[6,6,10]) F))(z:AV)(p:Ptr):
  lkM (1::[6,6,10]) z true (.map A) (kP p) h=some (.tuple [(wB (kP p) F).getD z, .bool (wB (kP p) F).isSome]):=by
 have a:Y4 (1::[6,6,10]) (1::[6,6,10])=true:=rfl
 cases f:wB (kP p) F<;>simp only[lkM,keyP,zP,H,a,f,lkR,y9,Option.getD_none,jJ,Option.isSome_none]
def fZ (p:Ptr)(L:List (Ptr×Nd.Node)):Option Nd.Node:=L.foldl (fun o x=>if p=x.1 then some x.2 else o) none
theorem zI2 (p:Ptr)(L:List (Ptr×Nd.Node))(x:Ptr×Nd.Node):fZ p (L++[x])=if p=x.1 then some x.2 else fZ p L:=by simp[fZ]
theorem zBU (p:Ptr)(L:List (Ptr×Nd.Node)):(∀nd,fZ p L=some nd->(p,nd)∈L)/\(fZ p L=none↔p∉L.map Prod.fst):=by
 have key: ∀(L:List (Ptr×Nd.Node)) (o:Option Nd.Node),(∀nd,L.foldl (fun o x=>if p=x.1 then some x.2 else o) o=some nd->(p,nd)∈L\/o=some nd)/\(L.foldl (fun o x=>if p=x.1 then some x.2 else o) o=none↔p∉L.map Prod.fst/\o=none):=by
  intro L
  induction L with
  | nil=>intro o;simp
  | cons x L ih=>
   intro o;obtain⟨a,f⟩:=ih (if p=x.1 then some x.2 else o)
   simp only[List.foldl_cons];refine⟨fun nd h=> ?_, ?_⟩
   .rcases a nd h with h | h
    .exact .inl (zC _ h)
    .by_cases e:p=x.1
     .rw[if_pos e]at h;have:=qT h;subst this;subst e;exact .inl (zJ ..)
     .rw[if_neg e]at h;exact .inr h
   .rw[f];by_cases e:p=x.1
    .rw[if_pos e,e];simp
    .rw[if_neg e];simp[e]
 obtain⟨k1,k2⟩:=key L none;exact⟨fun nd h=>(k1 nd h).elim id (fun h=>by cases h),k2.trans (by simp)⟩
def FM (H:AH)(M:Nat)(L:List (Ptr×Nd.Node)):Prop:= ∃es,H.h.get M=some (.map (1::[6,6,10]) es)/\ ∀p,(∀nd,fZ p L=some nd-> ∃v,wB (kP p) es=some v/\jZ H v nd)/\(fZ p L=none->wB (kP p) es=none)
theorem FM.stp {H H':AH}{M:Nat}{L:List (Ptr×Nd.Node)}{S:Nat->Prop}(h:FM H M L)(j:H.ok)(s:Stp S H H')(m: ¬S M)(o: ∀B,S B->NR H B):FM H' M L:=by
 obtain⟨es,g,f⟩:=h;refine⟨es,by rw[s.keep _ (j.lt g) m];exact g,fun p=>⟨fun nd q=> ?_,(f p).2⟩⟩;obtain⟨v,t,a⟩:=(f p).1 nd q;exact⟨v,t,a.stp s fun B u x=>(o B x).node a u⟩
def FM.prs (H:FM h A W)(a:h.ok)(s:Prs h L):FM L A W:=H.stp a s (fun x=>x) (fun _ x=>x.elim)
def FM.new {H:AH}(g:H.h.get A=some (.map (1::[6,6,10]) [])):FM H A []:=⟨[],g,fun p=>⟨fun nd h=>by simp[fZ]at h,fun _=>rfl⟩⟩
theorem FM.up {H:AH}{M:Nat}{L:List (Ptr×Nd.Node)}(h:FM H M L)(m:H.ok)(p:Ptr){v:AV}{nd:Nd.Node}(o:jZ H v nd): ∃H',upM (1::[6,6,10]) (.map M) (kP p) v H=some (jQ,H')/\FM H' M (L++[(p,nd)])/\Stp (fun B=>B=M) H H'/\H'.next=H.next:=by
 obtain⟨es,g,f⟩:=h;obtain⟨H',es',e,t,u,s,n⟩:=zM4 m g p v;have y:NR H M:=fun _ _ _ _ x=>by rw[g]at x;cases x
 have up: ∀ {v:AV} {nd:Nd.Node},jZ H v nd->jZ H' v nd:=fun x=>x.stp s fun B z C=>y.node x (C▸z)
 refine⟨H',e,⟨es',t,fun q=> ?_⟩,s,n⟩;rw[zI2,u];by_cases a:q=p
 .rw[if_pos a,if_pos a];exact⟨fun j h=>by cases h;exact⟨v,rfl,up o⟩,fun h=>by cases h⟩
 .rw[if_neg a,if_neg a];exact⟨fun j h=>by obtain⟨w,J,K⟩:=(f q).1 j h;exact⟨w,J,up K⟩,(f q).2⟩
def BM (H:AH)(M:Nat)(F:List Ptr):Prop:= ∃es,H.h.get M=some (.map (1::[6,6,10]) es)/\ ∀p,wB (kP p) es=if p∈F then some (.agg [])else none
theorem BM.stp {H H':AH}{M:Nat}{F:List Ptr}{S:Nat->Prop}(h:BM H M F)(a:H.ok)(s:Stp S H H')(j: ¬S M):BM H' M F:=by
 obtain⟨es,g,f⟩:=h;exact⟨es,by rw[s.keep _ (a.lt g) j];exact g,f⟩
def BM.new {H:AH}(g:H.h.get A=some (.map (1::[6,6,10]) [])):BM H A []:=⟨[],g,fun p=>by simp[wB]⟩
theorem BM.up (H:BM h A e)(j:h.ok)(p:Ptr): ∃H',upM (1::[6,6,10]) (.map A) (kP p) (.agg []) h=some (jQ,H')/\BM H' A (e++[p])/\Stp (fun B=>B=A) h H'/\H'.next=h.next:=by
 obtain⟨es,g,f⟩:=H;obtain⟨H',es',M,m,o,s,n⟩:=zM4 j g p (.agg []);refine⟨H',M,⟨es',m,fun q=> ?_⟩,s,n⟩;rw[o,f];by_cases a:q=p
 .rw[if_pos a,if_pos (by simp[a])]
 .rw[if_neg a];by_cases hm:q∈e
  .rw[if_pos hm,if_pos (by simp[hm])]
  .rw[if_neg hm,if_neg (by simp[hm,a])]
end Go.Eng.Sh




