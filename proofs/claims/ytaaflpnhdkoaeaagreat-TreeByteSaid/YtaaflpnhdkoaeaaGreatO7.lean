/- A checked evaluator for the program, and what it tells, part 7: no condition. -/
import Derived.Test.YtaaflpnhdkoaeaaGreatO6
import Derived.Test.YtaaflpnhdkoaeaaGreatRows
import Derived.ProofKit
import Derived.OpenShut
import Derived.Carry
set_option linter.all false
set_option linter.unusedVariables false
set_option linter.unusedSimpArgs false
set_option maxHeartbeats 8000000
set_option maxRecDepth 20000
variable (D:Go.Eng.Dyn)(n:Nat){H L:List Go.Nd.Ptr}{h q B C I J N Q R u:Nat}{k s:Nat->Prop}{i g:Nat->Nat}{A G:Go.Eng.AH}{v r:Go.Nd.Ptr}{w:Go.Nd.Kvs}{l:Go.Eng.Sh.Ev}{p m:List (Go.Eng.AV×Go.Eng.AV)}{t F W c:Go.Eng.AV}{e:Go.Eng.Sh.PN}{E:Go.Nd.Node}{M:List Go.Eng.AV}{P:Go.Bk.Ws}{U:Bool}{V:Go.World}{Y:List Go.Value}{a:Go.Nd.Ptr->Option Go.Nd.Node}{f:Type}{j:Go.Value}
section
namespace Go.Eng
theorem rowSt (j:A.ok){i N cc:Nat}{f x:List AV}(H:A.h.get h=some (.cells (M++f) q B U))(m:M.length=i*B)(o:0<B)(y:B<=f.length)(e:x.length=B)(s:jV x=true)(hi:i<N):
  ∃H',(∀κ (z:Int),z=(i:Int)->gY B (.slice h 0 N cc) (.int κ z)=some (.ptr h (i*B)))/\stN B (.ptr h (i*B)) (.agg x) A=some (jU,H')/\H'.h.get h=some (.cells (M++x++f.drop B) q B U)/\Stp (fun k=>k=h) A H'/\H'.next=A.next:=by
 have hb:Nat.blt i N=true:=by rw[qD];exact hi
 have p:i*B+B<=(M++f).length:=by rw[zV];omega
 refine⟨_,fun κ z t=> ?_,JP H o e s p, ?_,(zOJ j).put (j.lt H) _ (.inr rfl),rfl⟩
 .subst t;simp only[gY,kQ κ (show(0:Int)<=(i:Int)by omega),yI,hb,zU,kI,j7]
 .rw[zOF,if_pos rfl];have u:(M++f).take (i*B)=M:=jD m;have v:(M++f).drop (i*B+B)=f.drop B:=by rw[<-List.drop_drop,jA m]
  simp only[kF,u,v]
end Go.Eng
namespace Go.Eng.Sh
open Go.Nd (Ptr Str)
open Go.Bk Go.Bt
theorem AdT.keep {Z a:Nat->Prop}{H H':AH}(h:AdT Z H a H'){A:Nat}(f:A<H.next)(i: ¬Z A):H'.h.get A=H.h.get A/\ ¬a A/\A<H'.next:=
 ⟨h.1.keep A f i,fun x=>by rcases h.2 A x with y | y;exact i y;omega,qI f h.1.next⟩
theorem Wr.box (w:Wr l A h q B C I .nP J N Q i v p e R t k s)(Z:Stp (fun H'=>H'=u) A G)(left: ¬k u)(hp: ¬s u){m x:Nat}(K:A.h.get u=some (.cells M m x U)):Wr l G h q B C I .nP J N Q i v p e R t k s:=by
 obtain⟨es,y,z,Ad,L,is,nt,O,root,F,E,S,T,P,a,V⟩:=w.gw;have j:=w.ti.ok;have nz: ∀H',k H'-> ¬H'=u:=fun H' H m=>left (m▸H)
 have W: ¬es=u:=fun m=>by have:=F.gO;rw[m,K]at this;cases this
 have o:DkI G I l.nb l.ws es y z Ad:=F.stp j Z (nz _ ((a _).2 (.inr (.inr (.inl rfl))))) W (nz _ ((a _).2 (.inr (.inr (.inr (.inl rfl)))))) fun H' f=>nz _ ((a _).2 (.inr (.inr (.inr (.inr (.inl f))))))
 have txg:=w.ti.wr Z (fun H' f=>fun m=>hp (m▸(w.pa H').2 f)) o;exact⟨txg,w.sp.stp j Z (nz _ ((a _).2 (.inr (.inl rfl)))),w.few,⟨es,y,z,Ad,L,is,nt,O,root,o,by rw[Z.keep _ (j.lt E) (nz _ ((a _).2 (.inl rfl)))];exact E,S.mono Z fun H' f=>nz _ ((a _).2 (.inr (.inr (.inr (.inr (.inr (.inl f))))))),T.mono Z fun H' f=>nz _ ((a _).2 (.inr (.inr (.inr (.inr (.inr (.inr f))))))),P,a,V⟩,w.pr,w.pa,w.bd,w.nb,w.s0,w.lf⟩
theorem Wr.dec (w:Wr l A h q B C I .nP J (N+1) Q i v p e R t k s):
  ∃H',Eng.ld1 (.ptr h 3) A=some (.int .i64 (N+1:Nat))/\stN 1 (.ptr h 3) (.int .i64 N) A=some (jU,H')/\Eng.ld1 (.ptr h 3) H'=some (.int .i64 N)/\Eng.ld1 (.ptr h 0) H'=some (.ptr B 0)/\Wr l H' h q B C I .nP J N Q i v p e R t k s/\AdT k A k H'/\H'.next=A.next:=by
 obtain⟨G,a,M,K,V,W,nt,Y,ol,m,f,L,Ad,hn,O,txg⟩:=w.gw;have es:=w.ti.ok;obtain⟨S,e1,u,j,n1⟩:=xI es f (o:=3) (x:= .int .i64 N) rfl (by simp);have is:k h:=(O _).2 (.inl rfl);have U:q≠h:=fun root=>by
  obtain⟨c,g,T,_⟩:=w.sp;rw[root,f]at g;simp only[zC,AObj.cells.injEq]at g;rw[<-g.1]at T;simp at T
 have z:DkI S I l.nb l.ws G a M K:=m.stp es j (fun root=>kC f m.gD (by simp) root.symm) (fun root=>txg (root▸is)) (fun root=>kC f m.gN (by simp) root.symm) fun H left root=>kC f (m.ow.get left) (by simp) root.symm
 refine⟨S,by rw[jR f];rfl,e1,by rw[jR u];rfl,by rw[jR u];rfl,⟨w.ti.wr j (fun H left root=>w.pr H ((w.pa H).2 left) (root▸is)) z,w.sp.stp es j U,w.few,⟨G,a,M,K,V,W,nt,Y,ol,z,u,L.mono j fun H left root=>kC f (zOQ L left) (by simp) root.symm,Ad.mono j fun H left root=>kC f (zOQ Ad left) (by simp) root.symm,hn,O,txg⟩,w.pr,w.pa,w.bd,w.nb,w.s0,by have:=w.lf;omega⟩,⟨j.mono fun H _ root=>root▸is,fun _ E=> .inl E⟩,n1⟩
def zJK (h:Nat):Prop:= ∀ {E:Ev} {H:AH} {a s u M Ad txg left C:Nat} {is:Nat->Nat} {root:Ptr} {es:List (AV×AV)} {q:PN} {j:Nat} {v:AV} {Z P:Nat->Prop} (k n:Nat) {p:Ptr} {x:Nd.Node} {t:Bt.Tr h} {S:List Ptr},200000000+h<=k->200000000<=n->
  Wr E H a s u M Ad .nP txg left C is root es q j v Z P->Qf E q [] p=some x->wL (Qf E q []) h x t S->WN h t->(∀r∈p::S,r.at_≠1->is r.at_.toNat≠0)->cp (p::S)<=left->cp (p::S)<=cnt is 0 E.nb->txg<=2147483647->
  ∃H' ws' y la' m f o z i,f96 (dy k) n [.ptr a 0, .agg (jX p)] H=some (.tuple [.agg (jX f), .int .i64 (0:Nat)],H')/\Wr { E with ws:=ws'} H' a s u M Ad .nP txg i la' m root es q j v y P/\AdT Z H y H'/\WOut E.nb E.ws ws' is m (p::S) (f::z)/\i+cp (p::S)=left/\Ev.K { E with ws:=ws'} f=some o/\wL (Ev.K { E with ws:=ws'}) h o t z
theorem zHT {ws':Ws}(h:Qf l e [] v=some E)(hb:v.at_≠1->blkAt v.at_.toNat ws'=blkAt v.at_.toNat l.ws):Qf { l with ws:=ws'} e [] v=some E:=by
 obtain⟨s,rfl,f⟩ | ⟨f,i⟩:=vT h
 .rw[BF]at h⊢;exact h
 .rw[Y5 f];exact Ev.K_keep i (hb fun q=>by have:=(gG i).2;omega)
theorem wkids (ih:zJK h)(kv n:Nat)(hk:200000000+h<=kv)(hn:200000000<=n){cc N:Nat}{x4 x6:AV}(ht:Q<=2147483647)(hN:N=H.length)(f3:N<=100000):
  ∀(y:List Ptr) (ts:List (Bt.Tr h)) (S a:List Ptr) (E:Ev) (P:AH) (Z:Nat->Prop) (left la:Nat) (is:Nat->Nat) (s:Nat) (As:List AV),Wr E P q B C I J .nP Q left la is v p e u t Z k->vG (Qf E e []) (wL (Qf E e []) h) y ts S->(∀x∈ts,WN h x)->(∀r∈S,r.at_≠1->is r.at_.toNat≠0)->cp S<=left->cp S<=cnt is 0 E.nb->y.length<s->
   bY P F H->(∀L,Blk F L->k L)->H.drop a.length=y->a.length+y.length=H.length->P.h.get R=some (.cells (a.flatMap jX++As) 42 3 false)->As.length=y.length*3-> ¬Z R-> ¬k R->
   ∃H' ws' Z' la' b2 a9 b3 S',kL s (zEh (dy (kv+1)) n) [.ptr q 0,x4,x6, .slice R 0 N cc,F, .int .i64 N, .int .i64 a.length] P=some (.exit 0 [.ptr q 0,x4,x6, .slice R 0 N cc],H')/\Wr { E with ws:=ws'} H' q B C I J .nP Q a9 la' b2 v p e u t Z' k/\AdT (fun L=>Z L\/L=R) P (fun L=>Z' L\/L=R) H'/\ ¬Z' R/\WOut E.nb E.ws ws' is b2 S S'/\a9+cp S=left/\vG (Ev.K { E with ws:=ws'}) (wL (Ev.K { E with ws:=ws'}) h) b3 ts S'/\H'.h.get R=some (.cells ((a++b3).flatMap jX) 42 3 false):=by
 intro y
 induction y with
 | nil=>
  intro ts S a E P Z left la is s As w O hw Ad b4 b5 V a4 W hd hl g8 Y a6 a0;obtain⟨s,rfl⟩: ∃m,s=m+1:=⟨s - 1,by simp at V;omega⟩
  cases ts with
  | cons _ _=>exact O.elim
  | nil=>
   have root:S=[]:=O;subst root;have hi: ¬(a.length:Int)< (N:Int):=by simp only[yS]at hl;omega
   have c9:As=[]:=zR (by simpa using Y);subst c9;refine⟨P,E.ws,Z,la,is,left,[],[],kD (by simp(disch:=omega) only[zEh,eZ,hi]),w,AdT.prs (zOJ w.ti.ok),a6,WOut.nil _ _ _ (by simp),by rw[zH8];omega,rfl,by simpa using g8⟩
 | cons f y ihp=>
  intro ts S a E P Z left la is s As w O hw Ad b4 b5 V a4 W hd hl g8 Y a6 a0;obtain⟨s,rfl⟩: ∃m,s=m+1:=⟨s - 1,by simp at V;omega⟩
  cases ts with
  | nil=>exact O.elim
  | cons b0 ts=>
   obtain⟨j,S1,dr,hq,hr,d0,rfl⟩:=O;have b6:a.length<H.length:=by simp at hl;omega
   have d1:H[a.length]=f:=by
    have:=List.getElem_cons_drop b6;rw[hd]at this;simp only[y9]at this;exact this.1
   obtain⟨pk,q1,q2⟩:=a4.at b6;rw[d1]at q2;have a7:=w.ti.ok;have l8:=a7.lt g8;obtain⟨H1,b7,b1,p1,g1,m1,n1⟩:=box a7 (.cells [.int .i64 (0:Nat), .int .i64 (0:Nat), .int .u64 (0:Nat)] 42 1 false);obtain⟨H2,e2,g2,s2,n2⟩:=kE p1.ok g1 (l':=jX f) rfl rfl;have d2:stN 3 (.ptr b7 0) (.agg (jX f)) H1=some (jU,H2):=e2;have G:Prs P H2:=p1.fresh s2 fun L txg=>by omega
   have r2:ldN 3 (.ptr b7 0) H2=some (.agg (jX f)):=xN g2 rfl;have At:f::(S1++dr)=(f::S1)++dr:=rfl;rw[At,aB]at b4 b5;obtain⟨H3,z,Z3,d3,b8,es,d4,a8,c5,e3,w3,T,U,f4,d5,d6⟩:=ih kv kv hk (by omega) (w.prs G) hq hr (hw b0 (zJ ..)) (fun r hr=>Ad r (by rw[At];exact qX _ hr)) (by omega) (by omega) ht;have N2:=G.next;have N3:=T.1.next
   have b9:=zOM G a7 g8;obtain⟨k8,z8,f5⟩:=T.keep (G.ok.lt b9) a6;have c0:=k8.trans b9;obtain⟨H4,d7,e4,g4,s4,n4⟩:=rowSt (cc:=cc) w3.ti.ok c0 (i:=a.length) (N:=N) (x:=jX es) (dQ a) (by omega) (by simp at Y;omega) rfl rfl (by omega);have w4:=w3.box s4 z8 a0 c0;have c1:(a++[es]).length=a.length+1:=by simp
   have c2: ∀r,r∈dr-> ∀j,Qf E e [] r=some j->Qf { E with ws:=z} e [] r=some j:=fun r hr j h=>zHT h fun M=>U.bk _ (Ad r (by rw[At];exact qY _ hr) M)
   have d8:vG (Qf { E with ws:=z} e []) (wL (Qf { E with ws:=z} e []) h) y ts dr:=d0.mono c2 fun j b0 S' hS r=>r.mono fun f hp j hh=>c2 f (hS f hp) j hh
   have c7:bY H4 F H:=by
    refine(Rw.stp (Rw.stp (a4.prs G) T.1 fun L txg=> ?_) s4 fun L txg root=> ?_)
    .exact w.pr L (W L txg)
    .exact a0 (root▸W L txg)
   obtain⟨H5,c3,Z5,d9,e0,c6,e6,S5,e5,w5,a5,z5,o5,f6,e7,g5⟩:=ihp ts dr (a++[es]) { E with ws:=z} H4 Z3 c5 d3 b8 s (As.drop 3) w4 d8 (fun x hx=>hw x (zE _ hx)) (fun r hr M=>U.nz (Ad r (by rw[At];exact qY _ hr) M)) (by omega) (by have:=U.ct;show cp dr<=cnt b8 0 E.nb;omega) (by simp at V;omega) c7 W (by rw[c1,<-List.drop_drop,hd];rfl) (by simp at hl⊢;omega) (by rw[g4];simp) (by simp at Y⊢;omega) z8 a0;have o:=U.app o5;have e8:=U.used (fun r hr M=>Ad r (by rw[At];exact qX _ hr) M);have c4: ∀r,r∈es::a8-> ∀j,Ev.K { E with ws:=z} r=some j->Ev.K { E with ws:=c3} r=some j:=fun r hr j h=>Ev.K_keep (E:= { E with ws:=z}) h (o5.bk _ (e8 r hr).2)
   refine⟨H5,c3,Z5,d9,e0,c6,es::e6,es::a8++S5, ?_,w5, ?_,z5,o,by rw[At,aB];omega,⟨d4,a8,S5,c4 es (zJ ..) _ d5,d6.mono fun r hr j h=>c4 r (zE _ hr) j h,e7,rfl⟩,by rw[g5];simp⟩
   .have hi:(a.length:Int)< (N:Int):=by omega
    have e9: ¬(((0:Nat):Int)≠((0:Nat):Int)):=by omega
    have hi1:(a.length:Int)+((1:Nat):Int)=(((a++[es]).length:Nat):Int):=by rw[c1];omega
    have wi:IntKind.wrap .i64 (((a++[es]).length:Nat):Int)=(((a++[es]).length:Nat):Int):=wrap_i64 (by omega) (by omega);have c8:=d7 .i64 _ rfl;have f1:=q1 .i64 _ rfl;have f2:(dy (kv+1)).fn 96 [.ptr q 0, .agg (jX f)] H2=some (.tuple [.agg (jX es), .int .i64 (0:Nat)],H3):=e3;refine(wB ?_).trans e5;simp(maxSteps:=999999)(disch:=omega) only[zEh,eZ,hi,f1,q2,b1,d2,r2,f2,jS,nth,c8,e4,e9,hi1,wi]
   .have a1:AdT (fun L=>Z L\/L=R) P (fun L=>Z3 L\/L=R) H3:=by
     refine⟨(G.stp).trans (T.1.mono fun L _ h=> .inl h),fun L txg=> ?_⟩;rcases txg with txg | txg
     .rcases T.2 L txg with x | x
      .exact .inl (.inl x)
      .exact .inr (by omega)
     .exact .inl (.inr txg)
    have a2:AdT (fun L=>Z3 L\/L=R) H3 (fun L=>Z3 L\/L=R) H4:=⟨s4.mono fun L _ h=> .inr h,fun L h=> .inl h⟩;exact(a1.trans a2).trans a5
theorem zCF (z:List AV): ∀n,(rep n z).length=n*z.length
 | 0=>by simp[rep]
 | n+1=>by rw[rep,zV,zCF z n,jO];omega
theorem zLx (e sz bytes:Nat)(z:List AV)(a:h<=1000000)(hb:bytes<=1000):zFR e sz bytes z (.int .i64 h) (.int .i64 h)=some (.cells (rep h z) e sz false,fun A=> .slice A 0 h (2*h)):=by
 have f:Nat.ble h h=true:=by rw[qT];omega
 have n:Nat.ble (h*bytes) 140737488355328=true:=by
  rw[qT]
  calc h*bytes<=1000000*1000:=Nat.mul_le_mul a hb
   _<=140737488355328:=by decide
 have i:Nat.blt h 9223372036854775808=true:=by rw[qD];omega
 show zFR e sz bytes z (.int .i64 (.ofNat h)) (.int .i64 (.ofNat h))=_;simp only[zFR,f,n,i,qO,zU]
theorem zIa (s:Str):sumS s<18446744073709551616:=VT _ _ (by omega)
theorem AdT.prsR {i:AH}(h:AdT k A s G)(Z:Prs G i):AdT k A s i:=h.trans (AdT.prs Z)
theorem AdT.boxR {i:AH}(a:AdT k A s G)(Z:Stp (fun B=>B=h) G i)(o:A.next<=h):AdT k A s i:=by
 have N:=a.1.next;have p:=Z.next
 refine⟨⟨Z.ok,by omega,fun B j m=> ?_⟩,a.2⟩;rw[Z.keep B (by omega) (by omega),a.1.keep B j m]
theorem AdT.dropR {i:Nat->Prop}{m:AH}(f:AdT k A s G)(Z:AdT (fun B=>s B\/B=h) G (fun B=>i B\/B=h) m)(p:A.next<=h):AdT k A i m:=by
 have N:=f.1.next;have q:=Z.1.next
 refine⟨⟨Z.1.ok,by omega,fun B a o=> ?_⟩,fun B a=> ?_⟩
 .rw[Z.1.keep B (by omega) fun x=> ?_,f.1.keep B a o];rcases x with x | x
  .rcases f.2 B x with y | y
   .exact o y
   .omega
  .omega
 .rcases Z.2 B (.inl a)with(x | x) | x
  .exact f.2 B x
  .exact .inr (by omega)
  .exact .inr (by omega)
theorem zN5 (f n:Nat)(hk:200000000<=f)(hn:200000000<=n){a1:Nat}{P:Bt.Tr h}
  (w:Wr l A q B C I J .nP N (Q+1) R i v p e a1 t k s) (hq:jZ u e=some E) (hr:wL (Qf l e []) h E P H) (hw:WN h P) (m9:cp H+1<=cnt i 0 l.nb) (hu: ∀r∈H,r.at_≠1->i r.at_.toNat≠0) (ht:N<=2147483647)
  (h9: ∀(A:AH) (kv x4 x6:AV) (dr:Nat) (l2:List AV),Wr l A q B C I J .nP N Q R i v p e a1 t k s->bY A kv E.kids->(∀At,Blk kv At->s At)->A.h.get dr=some (.cells l2 42 3 false)->l2.length=E.kids.length*3-> ¬k dr-> ¬s dr->
   ∃H' ws' left la' Y W a7 y,kL n (zEh (dy f) n) [.ptr q 0,x4,x6, .slice dr 0 E.kids.length (2*E.kids.length),kv, .int .i64 E.kids.length, .int .i64 (0:Nat)] A=some (.exit 0 [.ptr q 0,x4,x6, .slice dr 0 E.kids.length (2*E.kids.length)],H')/\Wr { l with ws:=ws'} H' q B C I J .nP N W la' Y v p e a1 t left s/\AdT (fun At=>k At\/At=dr) A (fun At=>left At\/At=dr) H'/\ ¬left dr/\WOut l.nb l.ws ws' i Y H y/\W+cp H=Q/\a7.length=E.kids.length/\wL (Ev.K { l with ws:=ws'}) h { E with kids:=a7} P y/\H'.h.get dr=some (.cells (a7.flatMap jX) 42 3 false)):
  ∃H' ws' left la' Y p' root y W,f96 (dy f) n [.ptr q 0, .agg (jX (pp u))] A=some (.tuple [.agg (jX p'), .int .i64 (0:Nat)],H')/\Wr { l with ws:=ws'} H' q B C I J .nP N W la' Y v p e a1 t left s/\AdT k A left H'/\WOut l.nb l.ws ws' i Y (pp u::H) (p'::y)/\W+cp (pp u::H)=Q+1/\Ev.K { l with ws:=ws'} p'=some root/\wL (Ev.K { l with ws:=ws'}) h root P y:=by
 obtain⟨k2,rfl⟩: ∃k2,f=k2+2:=⟨f - 2,by omega⟩;have j5:=w.ti.ok;have zl:=w.lt;have hP:=w.old;obtain⟨H1,A3,b1,p1,g1,m1,n1⟩:=box j5 (.cells (jX (pp u)) 42 1 false);obtain⟨H2,A4,b2,p2,g2,m2,n2⟩:=box p1.ok (.cells [.int .i64 (0:Nat), .int .i64 (0:Nat), .int .u64 (0:Nat)] 42 1 false);have P2:=p1.trans p2;have N1:=p1.next;have N2:=p2.next
 have a9:=zOM p2 p1.ok g1;obtain⟨H3,d1,d2,d3,d4,w3,a3,n3⟩:=(w.prs P2).dec;have n0:=w3.lt;obtain⟨k13,z13,n5⟩:=a3.keep (p2.ok.lt a9) (fun x=>by have:=zl _ x;omega);have j6:=k13.trans a9;obtain⟨k23,n8,o0⟩:=a3.keep (p2.ok.lt g2) (fun x=>by have:=zl _ x;omega);have j7:=k23.trans g2;have r2:Eng.ld1 (.ptr A3 0) H2=some (.int .i64 (1:Nat)):=by rw[jR a9];rfl
 have r3:ldN 3 (.ptr A3 0) H3=some (.agg (jX (pp u))):=xN j6 rfl;obtain⟨H4,M,b4,p4,g4,m4,n4⟩:=box w3.ti.ok (.cells [.bool false, .nS, .nS, .nS] 119 1 false);have N4:=p4.next
 obtain⟨es,H5,e5,p5,d5,kx,j8⟩:=zAe (dy (k2+2)) n (w3.ti.prs p4) hq;have N5:=p5.next
 obtain⟨F,rfl,ll,lc⟩:=d5.cells;have j9:=zOM p5 p4.ok g4;obtain⟨H6,e6,g6,s6,n6⟩:=kE p5.ok j9 (l':=F) ll lc;have d6:stN 4 (.ptr M 0) (.agg F) H5=some (jU,H6):=e6;have p6:Prs H3 H6:=(p4.trans p5).fresh s6 fun At m=>by omega
 have N6:=p6.next
 obtain⟨ks,vs,Ad,he,h1,h2,h3⟩:=id d5;simp only[AV.agg.injEq]at he;subst he;have f3:Eng.ld1 (.ptr M 3) H6=some Ad:=by rw[jR g6];rfl
 have d7:bY H5 Ad E.kids:=h3.row;have d8:lnSl Ad=some (.int .i64 E.kids.length):=d7.lnSl;have k0:wM h P<=500:=hw.sz;have o1:small E:=xW (by rw[hr.size];omega);have o2:E.kids.length<=100:=by
  have:Nd.size E=wM h P:=hr.size;simp only[Nd.size]at this;omega
 obtain⟨O,d9⟩: ∃O,O=rep E.kids.length [AV.int .i64 (0:Nat), .int .i64 (0:Nat), .int .u64 (0:Nat)]:=⟨_,rfl⟩;have i2:O.length=E.kids.length*3:=by rw[d9];exact zCF _ _
 have e0:zFR 42 3 24 [.int .i64 (0:Nat), .int .i64 (0:Nat), .int .u64 (0:Nat)] (.int .i64 E.kids.length) (.int .i64 E.kids.length)=some (.cells O 42 3 false,fun As=> .slice As 0 E.kids.length (2*E.kids.length)):=by
  rw[d9];exact zLx _ _ _ _ (by omega) (by omega)
 obtain⟨la,dr,b7,T,g7,m7,n7⟩:=box s6.ok (.cells O 42 3 false);have N7:=T.next
 have P7:Prs H3 la:=p6.trans T;have w7:=w3.prs P7;have b0:=zOM T s6.ok g6;have e1:Eng.ld1 (.ptr M 3) la=some Ad:=by rw[jR b0];rfl
 have bl: ∀At,vV (.agg [.bool E.leaf,ks,vs,Ad]) At->s At:=fun At m=>(w.pa At).2 (.inr (.inr (.inr ⟨_,j8,m⟩)))
 have e2:Stp (fun At=>At=M) H5 la:=s6.trans T.stp;have b3: ∀At,s At-> ¬At=M:=fun At m=>by have:=hP At m;omega
 have i3:bY la Ad E.kids:=Rw.stp d7 e2 fun At m=>b3 At (bl At (xB.2 (.inr (.inr m))))
 have z8: ¬k dr:=fun x=>by have:=zl _ x;omega
 have q8: ¬s dr:=fun x=>by have:=hP _ x;omega
 obtain⟨H8,L,Z8,o3,k1,i0,qs,y,e8,w8,a8,o4,o8,o5,k3,z,g8⟩:=h9 la Ad (.ptr A4 0) (.ptr M 0) dr O w7 i3 (fun At m=>bl At (xB.2 (.inr (.inr m)))) g7 i2 z8 q8;have k4:AdT k A k la:=((AdT.prs P2).trans a3).prsR P7;have k5:AdT k A Z8 H8:=k4.dropR a8 (by omega);have N8:=a8.1.next
 have zs: ∀At,A.next<=At-> ¬k At:=fun At m x=>by have:=zl At x;omega
 obtain⟨k68,k6,o6⟩:=a8.keep (T.ok.lt b0) (fun x=>by rcases x with x | x;exact zs _ (by omega) x;omega);have e3:=k68.trans b0;have e4:=zOM P7 w3.ti.ok j7;obtain⟨k48,k7,o7⟩:=a8.keep (T.ok.lt e4) (fun x=>by rcases x with x | x;exact zs _ (by omega) x;omega);have e7:=k48.trans e4;obtain⟨U,e9,g9,V,n9⟩:=xI w8.ti.ok e3 (o:=3) (x:= .slice dr 0 E.kids.length (2*E.kids.length)) rfl (by simp);have q6: ¬s M:=fun x=>by have:=hP _ x;omega
 have w9:=w8.box V (fun x=>k6 (.inl x)) q6 e3;have k8:=k5.boxR V (by omega);have N9:=V.next
 have f1:U.h.get dr=some (.cells (qs.flatMap jX) 42 3 false):=by rw[V.keep _ (w8.ti.ok.lt g8) (by omega)];exact g8
 obtain⟨root,txg⟩: ∃root,root= { E with kids:=qs} :=⟨_,rfl⟩;have c5: ∀ {x:AV} {kk:Nat} {ll:List AV} {nn:Nat},Rw kk H5 x nn ll->(∀At,Blk x At->s At)->Rw kk U x nn ll:=fun k9 hb=>
  Rw.stp (Rw.stp (Rw.stp k9 e2 fun At m=>b3 At (hb At m)) a8.1 fun At m x=>by
   rcases x with x | x
   .exact w.pr At (hb At m) x
   .exact q8 (x▸hb At m)) V fun At m=>b3 At (hb At m)
 have l0:fD U (.agg [.bool E.leaf,ks,vs, .slice dr 0 E.kids.length (2*E.kids.length)]) root:=by
  refine⟨ks,vs,_,by rw[txg], ?_, ?_, ?_⟩
  .rw[txg];exact c5 h1.row fun At m=>bl At (xB.2 (.inl m))
  .rw[txg];exact c5 h2.row fun At m=>bl At (xB.2 (.inr (.inl m)))
  .rw[txg];refine⟨dQ qs, .inr (.inr ⟨dr,0,2*E.kids.length,_,_,_,_,by simp only[k3],f1,w9.ti.ok.lt f1, ?_, ?_⟩)⟩
   .simp only[dQ];omega
   .simp only[yD];rw[zZ (by rw[dQ];omega)]
 rw[<-txg]at z;obtain⟨lo,hi,i4⟩:=hw.gen;have f2:=o8.used hu;have i5: ∀r∈y,Nd.kidOk r=true:=fun r is=>by
  obtain⟨x,hx⟩:=wL.here z r is;exact(gG hx).1
 have l1:0<h->root.keys≠[]:=fun h0=>by
  cases h with
  | zero=>omega
  | succ h=>rw[z.2.1];exact hw.ne
 have b5:Nd.shaped ltS root=true:=z.shaped i4 l1 i5;have a6:Nd.size root<=500:=by rw[z.size];exact k0
 have i6:small root:=xW (by omega);have c6: ∀r∈root.kids,r∈y:=fun r is=>by
  cases h with
  | zero=>obtain⟨Z,_⟩:=z;rw[Z]at is;simp[Nd.leafOf]at is
  | succ h=>exact z.2.2.2.kids r is
 have c7: ∀r∈root.kids,Nd.sumOk r:=fun r is=>by
  obtain⟨x,hx⟩:=wL.here z r (c6 r is);obtain⟨a,birth,kind,body,rfl,_⟩:=zOI.1 hx;exact⟨by simp[bN],by have:=zIa (sealB kind birth body);simp only[bN];omega⟩
 obtain⟨l3,b6,a2⟩:=zGR (k2+1) n (by omega) hn w9.ti.ok l0 i6 c7;have i1:zKB root=(Nd.encN root,0):=by simp only[zKB,b5,if_true,if_pos a6]
 rw[i1]at b6;have a4:(Nd.encN root).length<=500:=by rw[Nd.encN_length b5];exact a6
 obtain⟨kind,G⟩: ∃kind:UInt8,kind=if root.leaf then 1 else 2:=⟨_,rfl⟩
 have l4:=w9.prs a2;obtain⟨o9,a0,b8⟩:=zFh (dy (k2+2)) n (by omega) a2.ok kind ht a4;obtain⟨At,m⟩: ∃At,At=sealB kind N (Nd.encN root):=⟨_,rfl⟩;have b9:=sealB_len (kind:=kind) (birth:=N) a4;rw[<-m]at a0 b9;obtain⟨Zb,f5⟩: ∃Zb:Str,Zb=List.replicate 512 0:=⟨_,rfl⟩;have l5:Zb.length=512:=by rw[f5];simp
 have f6:rep 512 [AV.int .u8 (0:Nat)]=jT Zb:=by rw[dB,f5]
 obtain⟨p0,p3,f7,c0,i7,p8,p9⟩:=box b8.ok (.cells (jT Zb) 55 1 false);obtain⟨f8,f9,i8,g0⟩:=stR c0.ok i7 l5 b9;have q0:=a2.next;have q1:=b8.next;have q2:=c0.next;have q3:=g0.next
 have c1:Prs U f8:=((a2.trans b8).trans c0).fresh g0 fun At m=>by omega
 have g3:=ldR i8 b9;have g5:=w9.prs c1;obtain⟨l6,j,h4,c2,j2,jn,j0,c3,h5⟩:=zKN k2 n (by omega) (by omega) g5 kind ht a4 (by have:=o8.ct;show 0<cnt k1 0 l.nb;omega);rw[<-m]at c2 c3;have c8:f8.h.get A4=_:=zOM c1 w9.ti.ok ((V.keep A4 (w8.ti.ok.lt e7) (by omega)).trans e7);obtain⟨i9,j1,m8⟩:=h5.keep (g5.ti.ok.lt c8) (fun x=>k7 (.inl x));have c9:=i9.trans c8;obtain⟨a5,l7,l8,h6,q5⟩:=kE c3.ti.ok c9 (l':=jX (bN j N At)) rfl rfl;have d0:stN 3 (.ptr A4 0) (.agg (jX (bN j N At))) l6=some (jU,a5):=l7;have q4: ¬s A4:=fun x=>by have:=hP _ x;omega
 have l9:=c3.box h6 j1 q4 c9;have h7:ldN 3 (.ptr A4 0) a5=some (.agg (jX (bN j N At))):=xN l8 rfl;have aF:AdT k A h4 a5:=((k8.prsR c1).trans h5).boxR h6 (by omega);have oF:=o8.put (s:=u) (birth:=N) (b:=At) j2 jn j0;have m0: ∀r∈y,blkAt r.at_.toNat (L++[(j,At)])=blkAt r.at_.toNat L:=fun r is=>by
  rw[cL,if_neg fun Z:j=_=>(f2 r is).2 (by rw[<-Z];exact j0)]
 have m3:wL (Ev.K { l with ws:=L++[(j,At)] }) h root P y:=z.mono fun r is q7 h2=>Ev.K_keep (E:= { l with ws:=L}) h2 (m0 r is)
 have m5:decide (kind=1)=root.leaf:=by rw[G];cases root.leaf<;>rfl
 have j3:Nd.decN ltS (decide (kind=1)) (Nd.encN root)=some root:=by
  rw[m5];exact Nd.decN_encN (by simp only[Nd.may,b5,Bool.true_and,zQ];exact a6) c7
 have m6:Ev.K { l with ws:=L++[(j,At)] } (bN j N At)=some root:=by
  refine zOI.2 ⟨j,N,kind,Nd.encN root,by rw[m],j2,jn,⟨by have:=w.nb.2.1;have:j<l.nb:=jn;omega,fun r is=>(f2 r (c6 r is)).1⟩,ht,a4, ?_,by rw[G];cases root.leaf<;>simp,j3⟩;show blkAt j (L++[(j,At)])=_;rw[cL,if_pos rfl,m]
 refine⟨a5,_,h4,j,_,bN j N At,root,y,i0, ?_,l9,aF,oF,by rw[fO];simp only[pp,if_true];omega,m6,m3⟩;obtain⟨On,Nw,wv,ds,tv,ov,nt,q9,ol,dk,gw,_⟩:=l4.gw;have fw:Eng.ld1 (.ptr q 2) l3=some (.int .i64 N):=by rw[jR gw];rfl
 have f0:Eng.ld1 (.ptr M 0) U=some (.bool E.leaf):=by rw[jR g9];rfl
 have f4:ldN 4 (.ptr M 0) U=some (.agg [.bool E.leaf,ks,vs, .slice dr 0 E.kids.length (2*E.kids.length)]):=xN g9 rfl;have j4:root.leaf=E.leaf:=by rw[txg]
 rw[j4]at G;have h8: ¬(((0:Nat):Int)≠((0:Nat):Int)):=by omega
 have t11: ¬(((1:Nat):Int)≠((1:Nat):Int)):=by omega
 have wi:((Q+1:Nat):Int) - ((1:Nat):Int)=(Q:Int):=by omega
 have tl: ¬(Q:Int)< ((0:Nat):Int):=by omega
 have r0:=w.lf;have wl:IntKind.wrap .i64 (Q:Int)=(Q:Int):=wrap_i64 (by omega) (by omega)
 cases hc:E.leaf with
 | true=>
  rw[hc]at G f0;have c4:(kind.toNat:Int)=((1:Nat):Int):=by rw[G];rfl
  rw[c4]at a0;simp(maxSteps:=999999)(disch:=omega) only[f96,eZ,b1,b2,r2,t11,d1,wi,wl,d2,d3,tl,d4,r3,b4,e5,jS,nth,d6,h8,f3,d8,e0,b7,e1,e8,zLY,e9,f0,zLX,f4,b6,fw,a0,f6,f7,f9,g3,c2,d0,h7]
 | false=>
  rw[hc]at G f0;have c4:(kind.toNat:Int)=((2:Nat):Int):=by rw[G];rfl
  rw[c4]at a0;simp(maxSteps:=999999)(disch:=omega) only[f96,eZ,b1,b2,r2,t11,d1,wi,wl,d2,d3,tl,d4,r3,b4,e5,jS,nth,d6,h8,f3,d8,e0,b7,e1,e8,zLY,e9,f0,zLX,f4,b6,fw,a0,f6,f7,f9,g3,c2,d0,h7]
open Go.Nd (Kvs)
theorem wL.disk {E:Ev}{q:PN} : ∀ {h:Nat} {f:Nd.Node} {t:Bt.Tr h} {S:List Ptr},wL (Qf E q []) h f t S->(∀r∈f.kids,r.at_≠1)->wL E.K h f t S/\ ∀r∈S,r.at_≠1
 | 0,f,t,S,w,_=>⟨w,by rw[w.2];simp⟩
 | h+1,f,t,S,⟨a,b,c,w⟩,hk=>by
  have key: ∀(i:List Ptr) (ts:List (Bt.Tr h)) (S:List Ptr),vG (Qf E q []) (wL (Qf E q []) h) i ts S->(∀r∈i,r.at_≠1)->vG E.K (wL E.K h) i ts S/\ ∀r∈S,r.at_≠1:=by
   intro i
   induction i with
   | nil=>
    intro ts S w _
    cases ts with
    | nil=>have e:S=[]:=w;subst e;exact⟨rfl,by simp⟩
    | cons _ _=>exact w.elim
   | cons p i ih=>
    intro ts S w hp
    cases ts with
    | nil=>exact w.elim
    | cons t ts=>
     obtain⟨f,y,u,z,hr,C,rfl⟩:=w;have o:=hp p (zJ ..);obtain⟨s,rfl,_⟩ | ⟨_,v⟩:=vT z
     .exact absurd rfl o
     .obtain⟨_,_,_,_,_,_,_,⟨_,x⟩,_⟩:=zOI.1 v;obtain⟨j,m⟩:=wL.disk hr x;obtain⟨F,G⟩:=ih ts u C fun r hr=>hp r (zE _ hr)
      refine⟨⟨f,y,u,v,j,F,rfl⟩,fun r hr=> ?_⟩;rcases zO.1 hr with rfl | hr
      .exact o
      .rcases qB.1 hr with e | e
       .exact m r e
       .exact G r e
  obtain⟨j,m⟩:=key f.kids t.2 S w hk;exact⟨⟨a,b,c,j⟩,m⟩
theorem zN4{root:Bt.Tr h}
  (w:Wr l A q B C I J .nP N Q R i v p e u t k s) (m:l.K r=some E) (hr:wL (Qf l e []) h E root H):
  ∃H' ws' Ad la' z o M O left,f96 D n [.ptr q 0, .agg (jX r)] A=some (.tuple [.agg (jX o), .int .i64 (0:Nat)],H')/\Wr { l with ws:=ws'} H' q B C I J .nP N left la' z v p e u t Ad s/\AdT k A Ad H'/\WOut l.nb l.ws ws' i z (r::H) (o::O)/\left+cp (r::H)=Q/\Ev.K { l with ws:=ws'} o=some M/\wL (Ev.K { l with ws:=ws'}) h M root O:=by
 have W:=w.ti.ok;obtain⟨H1,txg,b1,a,Y,m1,n1⟩:=box W (.cells (jX r) 42 1 false);obtain⟨es,A4,b2,is,g2,m2,n2⟩:=box a.ok (.cells [.int .i64 (0:Nat), .int .i64 (0:Nat), .int .u64 (0:Nat)] 42 1 false);obtain⟨f,e3,g3,s3,n3⟩:=kE is.ok g2 (l':=jX r) rfl rfl;have U:stN 3 (.ptr A4 0) (.agg (jX r)) es=some (jU,f):=e3;have N1:=a.next
 have T:Prs A f:=(a.trans is).fresh s3 fun G hB=>by omega
 have F:=zOM is a.ok Y;have r1:Eng.ld1 (.ptr txg 0) es=some (.int .i64 r.at_):=by rw[jR F];rfl
 have r2:ldN 3 (.ptr txg 0) es=some (.agg (jX r)):=xN F rfl;have r3:ldN 3 (.ptr A4 0) f=some (.agg (jX r)):=xN g3 rfl;have h2:=(gG m).2;have t1:(r.at_≠((1:Nat):Int))=True:=eq_true (by omega);obtain⟨_,_,_,_,_,_,_,⟨_,V⟩,_⟩:=zOI.1 m;obtain⟨hd,hS⟩:=wL.disk hr V;have y: ∀x∈r::H,x.at_≠1:=fun x hr=>by
  rcases zO.1 hr with rfl | hr
  .omega
  .exact hS x hr
 have c:cp (r::H)=0:=by
  rw[cp,List.length_eq_zero_iff];exact List.filter_eq_nil_iff.2 fun r hp=>by simpa using y r hp
 refine⟨f,l.ws,k,R,i,r,E,H,Q, ?_,w.prs T,AdT.prs T,WOut.nil _ _ _ y,by omega,m,hd⟩;simp(maxSteps:=999999)(disch:=omega) only[f96,eZ,b1,b2,r1,t1,r2,U,r3]
theorem zI0: ∀h,zJK h:=by
 intro h
 induction h with
 | zero=>
  unfold zJK;intro E H Aw As At M Ad txg left F is root es q W dr Z P k n p i t S hk u w G hr j v Y a0 y;rcases vT G with⟨s,rfl,f | ⟨_,f⟩⟩ | ⟨_,I⟩
  .simp[jZ]at f
  .have hc:cp (pp s::S)=1+cp S:=by rw[fO];simp[pp]
   obtain⟨left,rfl⟩: ∃l,left=l+1:=⟨left - 1,by omega⟩;refine zN5 k n (by omega) u w f hr j (by omega) (fun r hr=>v r (zE _ hr)) y fun J kv x4 x6 A8 Q z N O C o K T=> ?_
   obtain⟨rfl,rfl⟩:=hr;have a9:(Nd.leafOf t).kids=[]:=rfl;have L:(Nd.leafOf t).kids.length=0:=rfl;obtain⟨n,rfl⟩: ∃m,n=m+1:=⟨n - 1,by omega⟩;refine⟨J,E.ws,Z,F,is,left,[],[], ?_,z,AdT.prs (zOJ z.ti.ok),K,WOut.nil _ _ _ (by simp),by simp[cp],rfl,⟨rfl,rfl⟩, ?_⟩
   .rw[L];exact kD (by simp only[zEh,eZ,yY])
   .rw[L,Nat.zero_mul]at o;rw[zR o]at C;exact C
  .exact zN4 (dy k) n w I hr
 | succ h ih=>
  unfold zJK;intro E H Aw As At M Ad txg left F is root es q W dr Z P k n p i t S hk u w G hr j v Y a0 y;rcases vT G with⟨s,rfl,f | ⟨_,f⟩⟩ | ⟨_,I⟩
  .simp[jZ]at f
  .have hc:cp (pp s::S)=1+cp S:=by rw[fO];simp[pp]
   obtain⟨left,rfl⟩: ∃l,left=l+1:=⟨left - 1,by omega⟩;obtain⟨k,rfl⟩: ∃k',k=k'+1:=⟨k - 1,by omega⟩;have a1:Nd.size i<=500:=by rw[hr.size];exact j.sz
   have b0:i.kids.length<=100:=by simp only[Nd.size]at a1;omega
   refine zN5 (k+1) n (by omega) u w f hr j (by omega) (fun r hr=>v r (zE _ hr)) y fun J kv x4 x6 A8 Q z N O C o K T=> ?_
   obtain⟨a,b,c,U⟩:=hr;obtain⟨H8,a2,Z8,a3,a4,V,qs,S',e8,w8,a8,a5,o8,a6,hR,a7⟩:=wkids ih k n (by omega) u (x4:=x4) (x6:=x6) (cc:=2*i.kids.length) y rfl (by omega) i.kids t.2 S [] E J Z left F is n Q z U (fun x hx=>j.kid hx) (fun r hr=>v r (zE _ hr)) (by omega) (by omega) (by omega) N O rfl (by simp) C o K T;exact⟨H8,a2,Z8,a3,a4,V,qs,S',e8,w8,a8,a5,o8,a6,by rw[hR.len,U.len],⟨a,b,c,hR⟩,a7⟩
  .exact zN4 (dy k) n w I hr
theorem nodup_le: ∀ {l m:List Nat},l.Nodup->(∀x∈l,x∈m)->l.length<=m.length
 | [],_,_,_=>Nat.zero_le _
 | x::l,m,h,hs=>by
  obtain⟨f,hl⟩:=List.nodup_cons.1 h;have:=nodup_le (m:=m.erase x) hl fun y a=>(List.mem_erase_of_ne fun e:y=x=>f (e▸a)).2 (hs y (zE _ a))
  have hm:=hs x (zJ ..);have i:=List.length_erase_of_mem hm;have j:=List.length_pos_of_mem hm;rw[zY];omega
theorem zMn {E:Ev} : ∀ {T:List Ptr},T.Nodup->(∀r∈T,∃o,Qf E e [] r=some o)->cp T<=e.length:=by
 intro T t i;have v:((T.filter fun p=>decide (p.at_=1)).map fun p=>p.sum.toNat).Nodup:=by
  rw[List.nodup_iff_pairwise_ne,List.pairwise_map];refine(List.nodup_iff_pairwise_ne.1 (t.filter _)).imp_of_mem fun {a b} z hb m q=>m ?_
  obtain⟨C,F⟩:=List.mem_filter.1 z;obtain⟨b1,b2⟩:=List.mem_filter.1 hb;obtain⟨x,j⟩:=i a C;obtain⟨y,G⟩:=i b b1;have I: ∃s,a=pp s:=by
   obtain⟨s,q,_⟩ | ⟨_,f⟩:=vT j
   .exact⟨s,q⟩
   .have:=(gG f).2;simp at F;omega
  have J: ∃s,b=pp s:=by
   obtain⟨s,q,_⟩ | ⟨_,f⟩:=vT G
   .exact⟨s,q⟩
   .have:=(gG f).2;simp at b2;omega
  obtain⟨s,rfl⟩:=I;obtain⟨u,rfl⟩:=J;have K:s=u:=by simpa[pp]using q
  rw[K]
 have L: ∀s∈(T.filter fun p=>decide (p.at_=1)).map fun p=>p.sum.toNat,s∈e.map (·.1):=fun s M=>by
  obtain⟨r,hr,rfl⟩:=qM.1 M;obtain⟨N,O⟩:=List.mem_filter.1 hr;obtain⟨x,j⟩:=i r N;obtain⟨u,rfl,h | ⟨_,h⟩⟩ | ⟨_,f⟩:=vT j
  .simp[jZ]at h
  .have:(pp u).sum.toNat=u:=by simp[pp]
   rw[this];exact qM.2 ⟨_,v7 h,rfl⟩
  .have:=(gG f).2;simp at O;omega
 have Q:=nodup_le v L;simpa[cp]using Q
def Dsk (H:AH)(Ad f nb:Nat)(h:Ws)(a:Nat)(is:Nat->Nat)(V:Nat->Prop):Prop:= ∃m i j o,DkI H Ad nb h m i j o/\Spc H f nb a is/\(∀B,V B↔B=f\/B=Ad\/B=i\/Blk j B)/\64<=nb/\nb<=8192/\a<nb/\(2<=a\/a=0)/\(is 0≠0/\is 1≠0)/\h.length+cnt is 0 nb<=990000
theorem Dsk.prs {H H':AH}{Ad a nb f:Nat}{h:Ws}{is:Nat->Nat}{V:Nat->Prop}(d:Dsk H Ad a nb h f is V)(i:H.ok)(s:Prs H H'):Dsk H' Ad a nb h f is V:=by
 obtain⟨j,m,o,p,q,t,r⟩:=d;exact⟨j,m,o,p,q.prs i s,t.stp i s (fun x=>x),r⟩
theorem Dsk.lt {H:AH}{Ad h nb i:Nat}{j:Ws}{is:Nat->Nat}{V:Nat->Prop}(d:Dsk H Ad h nb j i is V)(a:H.ok): ∀B,V B->B<H.next:=by
 obtain⟨q,s,t,u,f,m,o,_⟩:=d;intro B p;rcases(o B).1 p with rfl | rfl | rfl | e
 .exact m.lt a
 .exact a.lt f.gD
 .exact a.lt f.gN
 .exact Own.lt f.ow e
theorem uH.node {H:AH} : ∀ {es:List (AV×AV)} {q:PN},uH H es q-> ∀kv∈es,∃f,kN H kv.2 f
 | [],[],_=>fun _ h=>by simp at h
 | (k,v)::es,(s,f)::q,h=>fun kv a=>by
  rcases zO.1 a with rfl | a
  .exact⟨f,h.1.2⟩
  .exact uH.node h.2 kv a
 | [],_::_,h=>h.elim
 | _::_,[],h=>h.elim
theorem VM (root:TI l A h q t F v p e N W)(Ad:Dsk A B C J P I i k): ∀m,(m=h\/m=q\/Blk W m\/ ∃kv∈p,vV kv.2 m)-> ¬k m:=by
 obtain⟨Y,Z,wv,dm,c,K,L,_⟩:=Ad;obtain⟨u,G,y,d,_⟩:=K;have O:=root.gT;have key: ∀(o:AObj),zOx o->(∀E s g,o≠ .cells E s 3 g)->o≠ .cells (wQ t F v q N W) 140 1 false->o≠ .map [10] p-> ∀m,A.h.get m=some o-> ¬(m=h\/m=q\/Blk W m\/ ∃kv∈p,vV kv.2 m):=by
  intro o Q S T U m a H;rcases H with rfl | rfl | H | ⟨kv,z,H⟩
  .rw[O]at a;exact T (yG a).symm
  .rw[root.gM]at a;exact U (yG a).symm
  .exact zON root.dg a (fun s g=>S _ s g) H
  .obtain⟨nd,M⟩:=root.pq.node kv z;exact M.nblk a Q H
 intro m j nb;rcases(L m).1 nb with rfl | rfl | rfl | H
 .obtain⟨x,r,f⟩: ∃x r,u=x::r:=by
   cases u with
   | nil=>simp at y
   | cons x r=>exact⟨x,r,rfl⟩
  subst f;simp only[List.getElem?_cons_zero,zC]at d;subst d;exact key _ (.inl ⟨_,r,_,_,rfl,fun _ _ H=>by cases H⟩) (by simp) (by simp) (by simp) _ G j
 .exact key _ (.inl ⟨_,_,_,_,rfl,fun _ _ H=>by cases H⟩) (by simp) (by simp) (by simp) _ c.gD j
 .exact key _ (.inr (.inl ⟨_,_,rfl⟩)) (by simp) (by simp) (by simp) _ c.gN j
 .exact key _ (.inr (.inr ⟨_,_,513,_,rfl,by omega,by omega⟩)) (by simp) (by simp) (by simp) _ (c.ow.get H) j
theorem zN2 (f:TI l A q B (.ptr C 0) .nP v p e R t)(o:Dsk A C I l.nb l.ws J i k)(txg:Prs A G)(Ad:G.h.get h=some (.cells [.ptr q 0, .ptr I 0, .int .i64 N, .int .i64 Q, .nS, .nS] 198 1 false))(m1:A.next<=h)(hl:Q<=1000000000):
  Wr l G h I q B C .nP N Q J i v p e R t (fun s=>s=h\/k s) (fun s=>s=q\/s=B\/Blk t s\/ ∃kv∈p,vV kv.2 s):=by
 have u:=f.ok;have a0:=o.prs u txg;have M:=VM f o;have a1:=o.lt u;obtain⟨z,O,y,S,a,j,F,b1,b2,T,U,W,Y⟩:=o;have K:=a.prs u txg;refine⟨f.prs txg,j.stp u txg fun x=>x,Y,⟨z,O,y,S, .nS, .nS,0,[],[],K,Ad,zOP ..,zOP ..,Nat.zero_le _,fun s=> ?_, ?_⟩,fun s E Z=> ?_,fun s=>Iff.rfl,U,⟨b1,b2,T⟩,W,hl⟩
 .have hn:Blk .nS s↔False:=zOO;rw[F s,hn];constructor
  .rintro(H | H | H | H | H)
   .exact .inl H
   .exact .inr (.inl H)
   .exact .inr (.inr (.inl H))
   .exact .inr (.inr (.inr (.inl H)))
   .exact .inr (.inr (.inr (.inr (.inl H))))
  .rintro(H | H | H | H | H | H | H)
   .exact .inl H
   .exact .inr (.inl H)
   .exact .inr (.inr (.inl H))
   .exact .inr (.inr (.inr (.inl H)))
   .exact .inr (.inr (.inr (.inr H)))
   .exact H.elim
   .exact H.elim
 .have lO:=u.lt a.gO
  rintro(left | hv)
  .omega
  .rcases(F z).1 hv with left | left | left | left
   .obtain⟨c8,m,_⟩:=j;rw[<-left,a.gO]at m;cases m
   .have:=a.gD;rw[<-left,a.gO]at this;cases this
   .exact a.ne left
   .have:=a.ow.get left;rw[a.gO]at this;cases this
 .rcases Z with left | left
  .have hold:s<A.next:=by
    rcases E with rfl | rfl | H | ⟨kv,L,H⟩
    .exact u.lt f.gT
    .exact u.lt f.gM
    .exact f.dg.lt H
    .exact f.pq.old kv L s H
   omega
  .exact M s E left
theorem zHZ (m n:Nat)(hm:400000000<=m)(hn:200000000<=n){E:Ev}{txg:Nat}(t:uV (.ptr C 0) .nP E A h q B k v e w H)(ds:Dsk A C I E.nb E.ws J i s)(hu: ∀r∈H,r.at_≠1->i r.at_.toNat≠0)(Q:1<=txg)(h2:txg<=2147483647)(d6:w.length<=1000000000):
  ∃H',(cnt i 0 E.nb<e.length/\f43 (dy m) n [.ptr h 0, .ptr I 0, .int .i64 txg] A=some (.tuple [.agg [.int .i64 (0:Nat), .int .i64 (0:Nat), .int .u64 (0:Nat)], .nS, .int .i64 (3:Nat)],H')/\Prs A H')\/
   (e.length<=cnt i 0 E.nb/\ ∃ws' c2 la' V' b9 T' M' W' u,f43 (dy m) n [.ptr h 0, .ptr I 0, .int .i64 txg] A=some (.tuple [.agg (jX b9),u, .int .i64 (0:Nat)],H')/\uV (.ptr C 0) .nP { E with ws:=ws',dl:=[] } H' h M' B W' b9 [] w T'/\Dsk H' C I E.nb ws' la' c2 V'/\WOut E.nb E.ws ws' i c2 H T'/\AdT (fun L=>k L\/s L) A (fun L=>W' L\/V' L) H'/\Rw 3 H' u E.dl.length (E.dl.flatMap jX)/\ ∀L,Blk u L-> ¬W' L/\ ¬V' L/\k L):=by
 obtain⟨u,es,G,hc,Ad,i7,i8,d7,i9,hr,hW⟩:=t;have hk:=Ad.ok;obtain⟨H1,z,b1,la,g1,m1,n1⟩:=box hk (.cells [.int .i64 (0:Nat), .int .i64 (0:Nat), .int .u64 (0:Nat)] 42 1 false);have N1:=la.next
 have b0:=Ad.prs la;have c3:=QM (dy m) n b0;obtain⟨c8,gS,_⟩: ∃c,A.h.get I=some (.cells c 145 1 false)/\True:=by
  obtain⟨_,_,_,_,_,sp,_⟩:=id ds;obtain⟨c,g⟩:=sp.bk;exact⟨c,g,trivial⟩
 have d8:Spc H1 I E.nb J i:=by
  obtain⟨_,_,_,_,_,sp,_⟩:=id (ds.prs hk la);exact sp
 have c0:=zCD (dy m) n d8;have c4:Eng.ld1 (.ptr h 5) H1=some (.map q):=by rw[jR b0.gT];rfl
 have c5:ZM (.map q) H1=some (.int .i64 e.length):=by
  simp only[ZM,b0.gM,kI,b0.pq.len];rfl
 have t1: ¬(txg:Int)< ((1:Nat):Int):=by omega
 have t2: ¬((2147483647:Nat):Int)< (txg:Int):=by omega
 have ck: ∀K:Rs,chk (some (.map q)) (.map q) K=K:=fun K=>kY rfl (by simp[aveq])
 have z6:ldN 3 (.ptr z 0) H1=some (.agg [.int .i64 (0:Nat), .int .i64 (0:Nat), .int .u64 (0:Nat)]):=xN g1 rfl;have d9:uO [(0,1),(1,1),(2,1)] [.int .i64 (0:Nat), .int .i64 (0:Nat), .int .u64 (0:Nat)] []=some (.agg [.int .i64 (0:Nat), .int .i64 (0:Nat), .int .u64 (0:Nat)]):=rfl;rcases Nat.lt_or_ge (cnt i 0 E.nb) e.length with e0 | e1
 .obtain⟨F,e2,g2,s2,n2⟩:=kE la.ok g1 (l':=[.int .i64 (0:Nat), .int .i64 (0:Nat), .int .u64 (0:Nat)]) rfl rfl;have e4:stN 3 (.ptr z 0) (.agg [.int .i64 (0:Nat), .int .i64 (0:Nat), .int .u64 (0:Nat)]) H1=some (jU,F):=e2;have r2:ldN 3 (.ptr z 0) F=some (.agg [.int .i64 (0:Nat), .int .i64 (0:Nat), .int .u64 (0:Nat)]):=xN g2 rfl;have tl:((cnt i 0 E.nb:Nat):Int)< (e.length:Int):=by omega
  refine⟨F, .inl ⟨e0, ?_,la.fresh s2 fun L T=>by omega⟩⟩;simp(maxSteps:=999999)(disch:=omega) only[f43,eZ,b1,c3,cq,t1,t2,c4,c0,ck,c5,tl,d9,e4,r2]
 .have tl: ¬((cnt i 0 E.nb:Nat):Int)< (e.length:Int):=by omega
  obtain⟨F,Aw,b2,p2,g2,m2,n2⟩:=box la.ok (.cells [.ptr h 0, .ptr I 0, .int .i64 txg, .int .i64 e.length, .nS, .nS] 198 1 false);have N2:=p2.next
  have P2:=la.trans p2;have w2:=zN2 Ad ds P2 g2 (by omega) Ad.few;have e8:uO [(0,1),(1,1),(2,1),(3,1),(4,1),(5,1)] [.nP, .nP, .int .i64 (0:Nat), .int .i64 (0:Nat), .nS, .nS] [(0, .ptr h 0),(1, .ptr I 0),(2, .int .i64 txg),(3, .int .i64 e.length)]=some (.agg [.ptr h 0, .ptr I 0, .int .i64 txg, .int .i64 e.length, .nS, .nS]):=rfl;have f1:=w2.ti.gT;have rT:ldN 3 (.ptr h 2) F=some (.agg (jX v)):=QQ f1 (by simp[wQ]);have j0:cp H<=e.length:=by
   rcases hr with⟨_,_,rfl⟩ | ⟨M,nd,tr,S,k1,k2,k3,k4,k5,rfl⟩
   .exact Nat.zero_le _
   .refine zMn (E:=E) k4 fun r hr=> ?_
    rcases zO.1 hr with rfl | hr
    .exact⟨nd,k1⟩
    .exact wL.here k2 r hr
  have node: ∃U N y a4 a0 p T3 a8,f96 (dy m) n [.ptr Aw 0, .agg (jX v)] F=some (.tuple [.agg (jX p), .int .i64 (0:Nat)],U)/\Wr { E with ws:=N} U Aw I h q C .nP txg a8 a4 a0 v es e G u y (fun L=>L=h\/L=q\/Blk u L\/ ∃w∈es,vV w.2 L)/\AdT (fun L=>L=Aw\/s L) F y U/\WOut E.nb E.ws N i a0 H T3/\v5 { E with ws:=N,dl:=[] } [] p w T3:=by
   rcases hr with⟨rfl,rfl,rfl⟩ | ⟨M,nd,tr,S,k1,k2,k3,k4,k5,rfl⟩
   .obtain⟨U,A3,b3,p3,g3,m3,n3⟩:=box w2.ti.ok (.cells (jX pZ) 42 1 false);obtain⟨H4,A4,b4,p4,g4,m4,n4⟩:=box p3.ok (.cells [.int .i64 (0:Nat), .int .i64 (0:Nat), .int .u64 (0:Nat)] 42 1 false);obtain⟨j,e5,g5,s5,n5⟩:=kE p4.ok g4 (l':=jX pZ) rfl rfl;have b5:stN 3 (.ptr A4 0) (.agg (jX pZ)) H4=some (jU,j):=e5;have N3:=p3.next
    have P5:Prs F j:=(p3.trans p4).fresh s5 fun L T=>by omega
    have c6:=zOM p4 p3.ok g3;have r1:Eng.ld1 (.ptr A3 0) H4=some (.int .i64 (0:Nat)):=by rw[jR c6];rfl
    have r2:ldN 3 (.ptr A3 0) H4=some (.agg (jX pZ)):=xN c6 rfl;have r3:ldN 3 (.ptr A4 0) j=some (.agg (jX pZ)):=xN g5 rfl;have f2:(((0:Nat):Int)≠((1:Nat):Int))=True:=eq_true (by omega);refine⟨j,E.ws,_,J,i,pZ,[],e.length, ?_,w2.prs P5,AdT.prs P5,WOut.nil _ _ _ (by simp), .inl ⟨rfl,rfl,rfl⟩⟩;simp(maxSteps:=999999)(disch:=omega) only[f96,eZ,b3,b4,r1,f2,r2,b5,r3]
   .have i4:=k3.low (by rw[k5];exact d6);obtain⟨U,N,y,a4,a0,p',f3,S',a8,e3,w3,a3,o3,l3,K3,R3⟩:=zI0 M m n (by omega) hn w2 k1 k2 (.inr k3) hu (by omega) (by omega) h2;refine⟨U,N,y,a4,a0,p',p'::S',a8,e3,w3,a3,o3, .inr ⟨M,f3,tr,S', ?_, ?_,k3, ?_,k5,rfl⟩⟩
    .have hd:=(o3.used hu p' (zJ ..)).1;rw[Y5 fun W kv=>hd (by rw[kv];rfl)];exact zOI.2 (zOI.1 K3)
    .refine R3.mono fun r f4 j1 f5=> ?_
     have hd:=(o3.used hu r (zE _ f4)).1;rw[Y5 fun W kv=>hd (by rw[kv];rfl)];exact zOI.2 (zOI.1 f5)
    .obtain⟨i5,pm,f6,_,hn⟩:=o3.pm;rw[pm.nodup_iff];refine List.nodup_append.2 ⟨k4.filter _,f6,fun a ha b hb kv=> ?_⟩;subst kv;obtain⟨a1,a2⟩:=UO.1 ha;exact hu a a1 a2 (hn a hb).2.1
  obtain⟨U,N,y,a4,a0,p,T3,a8,e3,w3,a3,o3,f7⟩:=node;have N3:=a3.1.next
  obtain⟨H4,b6,b4,p4,g4,m4,n4⟩:=box w3.ti.ok (.cells [.int .i64 (0:Nat), .int .i64 (0:Nat), .int .u64 (0:Nat)] 42 1 false);obtain⟨j,e5,g5,s5,n5⟩:=kE p4.ok g4 (l':=jX p) rfl rfl;have b5:stN 3 (.ptr b6 0) (.agg (jX p)) H4=some (jU,j):=e5;have N4:=p4.next
  have P5:Prs U j:=p4.fresh s5 fun L T=>by omega
  have V:=w3.prs P5;have f8:ldN 3 (.ptr b6 0) j=some (.agg (jX p)):=xN g5 rfl;have Y:=V.ti.gT;have x1:Eng.ld1 (.ptr h 1) j=some .nP:=by rw[jR Y];rfl
  have x7:Eng.ld1 (.ptr h 7) j=some u:=by rw[jR Y];rfl
  have lT:=hk.lt Ad.gT;have e6:=JP (o:=2) (n:=3) (x:= .agg (jX p)) Y (by decide) rfl rfl (by simp[wQ]);have g6:(j.put h (.cells (wQ (.ptr C 0) .nP p q G u) 140 1 false)).h.get h=some (.cells (wQ (.ptr C 0) .nP p q G u) 140 1 false):=by rw[zOF,if_pos rfl]
  have c7:stN 3 (.ptr h 2) (.agg (jX p)) j=some (jU,j.put h (.cells (wQ (.ptr C 0) .nP p q G u) 140 1 false)):=e6;have a5:Stp (fun L=>L=h) j (j.put h (.cells (wQ (.ptr C 0) .nP p q G u) 140 1 false)):=(zOJ V.ti.ok).put (V.ti.ok.lt Y) _ (.inr rfl);generalize j.put h (.cells (wQ (.ptr C 0) .nP p q G u) 140 1 false)=H6 at c7 g6 a5;obtain⟨H7,e7,g7,s7,n7⟩:=xI a5.ok g6 (o:=7) (x:= .nS) rfl (by simp[wQ]);have f9:H7.h.get h=some (.cells (wQ (.ptr C 0) .nP p q G .nS) 140 1 false):=g7;obtain⟨H8,M',b8,p8,g8,m8,n8⟩:=box s7.ok (.map [10] []);have g0:=zOM p8 s7.ok f9;obtain⟨H9,e9,g9,s9,n9⟩:=xI p8.ok g0 (o:=5) (x:= .map M') rfl (by simp[wQ]);have h0:H9.h.get h=some (.cells (wQ (.ptr C 0) .nP p M' G .nS) 140 1 false):=g9;have N6:=a5.next;have N7:=s7.next;have N8:=p8.next;have N9:=s9.next
  have j2:=w2.lt;have kb: ∀ {f:Nat} {o:AObj},H1.h.get f=some o->A.next<=f->f<F.next->f≠Aw->j.h.get f=some o:=fun {f o} g ha hb a6=>by
   have c9:=zOM p2 la.ok g;have nz: ¬(f=Aw\/s f):=fun x=>by
    rcases x with x | x
    .exact a6 x
    .have:=ds.lt hk f x;omega
   rw[P5.keep f (by omega) (fun x=>x),(a3.keep (w2.ti.ok.lt c9) nz).1];exact c9
  have a7:=kb g1 (by omega) (by omega) (by omega);have b7: ∀ {f:Nat} {o:AObj},j.h.get f=some o->f≠h->f<j.next->H9.h.get f=some o:=fun {f o} g a6 hl=>by
   rw[s9.keep f (by omega) a6,p8.keep f (by omega) (fun x=>x),s7.keep f (by omega) a6,a5.keep f hl a6];exact g
  have h4:=b7 a7 (by omega) (V.ti.ok.lt a7);have d2:=b7 g5 (by omega) (by omega);have d3:ldN 3 (.ptr b6 0) H9=some (.agg (jX p)):=xN d2 rfl;obtain⟨Z,h5,h6,O,j3⟩:=kE s9.ok h4 (l':=jX p) rfl rfl;have d4:stN 3 (.ptr z 0) (.agg (jX p)) H9=some (jU,Z):=h5;have r6:ldN 3 (.ptr z 0) Z=some (.agg (jX p)):=xN h6 rfl;have j4:=O.next
  have h7: ¬(((0:Nat):Int)≠((0:Nat):Int)):=by omega
  have h8:mkM [10]=some (.map [10] [],fun f=> .map f):=rfl;obtain⟨On,Nw,wv,dm,tv,ov,nt,j5,ol,dk,gw,ot,oo,j6,hZ,hO⟩:=V.gw;have tP: ∀L,(L=h\/L=q\/Blk u L\/ ∃w∈es,vV w.2 L)-> ¬y L:=w3.pr;have h9: ∀L,y L-> ¬L=h:=fun L T kv=>tP h (.inl rfl) (kv▸T)
  have l6:z<F.next:=by omega
  have i0: ¬y z:=(a3.keep (w2.ti.ok.lt (zOM p2 la.ok g1)) (fun x=>by rcases x with x | x;omega;have:=ds.lt hk z x;omega)).2.1;have j7: ∀L,y L->L<j.next:=V.lt
  have i1:On≠z:=fun kv=>by rw[<-kv]at a7;rw[dk.gO]at a7;cases a7
  have i2:On≠h:=fun kv=>by rw[<-kv]at Y;rw[dk.gO]at Y;cases Y
  have lO:=V.ti.ok.lt dk.gO;have i6: ∀ {f:Nat} {o:AObj},j.h.get f=some o->f≠h->f≠z->Z.h.get f=some o:=fun {f o} g Q h2=>by
   have:=V.ti.ok.lt g;rw[O.keep f (by omega) h2];exact b7 g Q this
  have zI: ∀ {L},y L->L≠h/\L≠z:=fun {L} T=>⟨h9 L T,fun kv=>i0 (kv▸T)⟩
  have a9:Stp (fun L=>L=h\/L=z) j Z:=⟨O.ok,by omega,fun f hA hS=>by
   have Q:f≠h:=fun kv=>hS (.inl kv)
   have h2:f≠z:=fun kv=>hS (.inr kv)
   rw[O.keep f (by omega) h2,s9.keep f (by omega) Q,p8.keep f (by omega) (fun x=>x),s7.keep f (by omega) Q,a5.keep f hA Q]⟩
  have nI: ∀ {L},y L-> ¬(L=h\/L=z):=fun {L} T x=>by rcases x with x | x;exact(zI T).1 x;exact(zI T).2 x
  have zS:y I:=(hZ _).2 (.inr (.inl rfl));have zD:y C:=(hZ _).2 (.inr (.inr (.inl rfl)));have zN:y Nw:=(hZ _).2 (.inr (.inr (.inr (.inl rfl))));have zw: ∀L,Blk wv L->y L:=fun L T=>(hZ _).2 (.inr (.inr (.inr (.inr (.inl T)))))
  have c1:DkI Z C E.nb N On Nw wv dm:=dk.stp V.ti.ok a9 (nI zD) (fun x=>by rcases x with x | x;exact i2 x;exact i1 x) (nI zN) fun L T=>nI (zw L T)
  have i3: ∀L,Blk u L->L=h\/L=q\/Blk u L\/ ∃w∈es,vV w.2 L:=fun L T=> .inr (.inr (.inl T))
  have d0: ∀L,Blk u L->L≠h:=fun L T kv=>by
   subst kv;exact zON Ad.dg Ad.gT (fun e' g=>by simp) T
  have d1: ∀L,Blk u L->L<A.next:=fun L T=>Ad.dg.lt T
  have d5:Rw 3 Z u E.dl.length (E.dl.flatMap jX):=by
   refine Rw.stp (V.ti.dg.row) a9 fun L T x=> ?_
   rcases x with x | x
   .exact d0 L T x
   .have:=d1 L T;omega
  refine⟨Z, .inr ⟨e1,N,a0,a4,fun L=>L=I\/L=C\/L=Nw\/Blk wv L,p,T3,M',fun L=>L=h\/L=M'\/Blk .nS L,u, ?_,⟨.nS,[],G,rfl,⟨O.ok, ?_, ?_,trivial,⟨_,_,_,_,_,_,rfl,c1,zJM.self _⟩, .inl rfl, .inl (zOP ..),by simp,by simp,fun L T=>by have:=Ad.xl L T;omega⟩,by simp[jZ],by simp,d7,by simp,f7,fun L=>Iff.rfl⟩,⟨On,Nw,wv,dm,c1,V.sp.stp V.ti.ok a9 (nI zS),fun L=>Iff.rfl,V.nb.1,V.nb.2.1,V.nb.2.2,V.bd,V.s0,V.few⟩,o3,⟨⟨O.ok,by omega,fun L T hS=> ?_⟩,fun L T=> ?_⟩,d5,fun L T=>⟨?_, ?_,(hW L).2 (.inr (.inr T))⟩⟩⟩
  .simp(maxSteps:=999999)(disch:=omega) only[f43,eZ,b1,c3,cq,t1,t2,c4,c0,ck,c5,tl,e8,b2,rT,e3,jS,nth,b4,b5,h7,x1,zNX,x7,f8,c7,e7,h8,b8,e9,d3,d4,r6]
  .rw[O.keep _ (by omega) (by omega)];exact h0
  .rw[O.keep _ (by omega) (by omega),s9.keep _ (by omega) (by omega)];exact g8
  .have Q:L≠h:=fun kv=>hS (.inl ((hW L).2 (.inl kv)))
   have hv: ¬s L:=fun x=>hS (.inr x)
   rw[a9.keep L (by omega) (fun x=>by rcases x with x | x;exact Q x;omega),P5.keep L (by omega) (fun x=>x),(a3.keep (A:=L) (by omega) (fun x=>by rcases x with x | x;omega;exact hv x)).1,P2.keep L T (fun x=>x)]
  .have old: ∀L,y L->s L\/A.next<=L:=fun L T=>by
    rcases a3.2 L T with(x | x) | x
    .exact .inr (by omega)
    .exact .inl x
    .exact .inr (by omega)
   rcases T with(kv | kv | kv) | (kv | kv | kv | kv)
   .exact .inl (.inl ((hW L).2 (.inl kv)))
   .exact .inr (by omega)
   .exact(zOO.1 kv).elim
   .rcases old L (kv▸zS)with x | x
    .exact .inl (.inr x)
    .exact .inr x
   .rcases old L (kv▸zD)with x | x
    .exact .inl (.inr x)
    .exact .inr x
   .rcases old L (kv▸zN)with x | x
    .exact .inl (.inr x)
    .exact .inr x
   .rcases old L (zw L kv)with x | x
    .exact .inl (.inr x)
    .exact .inr x
  .have:=d1 L T
   rintro(kv | kv | kv)
   .exact d0 L T kv
   .omega
   .exact zOO.1 kv
  .have h3:=tP L (i3 L T)
   rintro(kv | kv | kv | kv)
   .exact h3 (kv▸zS)
   .exact h3 (kv▸zD)
   .exact h3 (kv▸zN)
   .exact h3 (zw L kv)
end Go.Eng.Sh
end
section
namespace Go.Eng
open Go.Nd (Kvs Srt)
end Go.Eng
namespace Go.Eng.Sh
open Go.Nd (Ptr sumL leafOf Kvs Srt mayK putP delP lookP)
open Go.Bt
def prV (p:Str×Str):List AV:=[S p.1,S p.2]
def zDL (H:AH)(v:AV)(l:Kvs):Prop:=Rw 2 H v l.length (l.flatMap prV)
theorem zD6: ∀(l:Kvs) (i:Nat) (h:i<l.length),((l.flatMap prV).drop (i*2)).take 2=prV l[i]
 | p::l,0,_=>rfl
 | p::l,i+1,h=>by
  rw[qL,show(i+1)*2=2+i*2 by omega,<-List.drop_drop];exact zD6 l i (by simpa using h)
theorem zDL.at {H:AH}{v:AV}{l:Kvs}(h:zDL H v l){i:Nat}(hi:i<l.length): ∃A o,(∀κ (z:Int),z=(i:Int)->gY 2 v (.int κ z)=some (.ptr A o))/\Eng.ldN 2 (.ptr A o) H=some (.agg (prV l[i]))/\Eng.ld1 (.ptr A o) H=some (S l[i].1)/\Eng.ld1 (.ptr A (o+1)) H=some (S l[i].2):=by
 obtain⟨A,o,c,e,sz,g,f,a,q,j,h5⟩:=Rw.at h hi;rw[zD6 l i hi]at h5;have m:c[o]? =some (S l[i].1):=by
  have:=congrArg (fun x=>x[0]?) h5;simpa[prV]using this
 have p:c[o+1]? =some (S l[i].2):=by
  have:=congrArg (fun x=>x[1]?) h5;simpa[prV]using this
 exact⟨A,o,f,by rw[QQ a j,h5],wO a m,wO a p⟩
def behind (kv:Kvs):Nat->Str
 | 0=>[]
 | i+1=>(kv.getD i ([],[])).1++[0]
theorem zFU: ∀ {kv:Kvs},Srt kv-> ∀(i:Nat) (h:i<kv.length),lookP kv[i].1 kv=some kv[i].2
 | p::kv,_,0,_=>by simp[lookP]
 | p::kv,hs,i+1,h=>by
  have a:i<kv.length:=by simpa using h
  have f:=zFU hs.2 i a;have hl:=hs.1 _ (yJ a);simp only[List.getElem_cons_succ,lookP];rw[if_neg (cX hl)];exact f
theorem zCn {k:Str} : ∀ {l:Kvs},Srt l-> ∀j,j<Nd.whereN (leafOf l) k-> ∃h:j<l.length,ltS l[j].1 k=true
 | [],_,j,h=>by simp[Nd.whereN,leafOf]at h
 | (a,b)::l,hs,j,h=>by
  rw[Nd.where_cons hs]at h;split at h
  .rename_i f
   cases j with
   | zero=>exact⟨by simp,f⟩
   | succ j=>
    obtain⟨i,m⟩:=zCn (k:=k) hs.2 j (by omega);exact⟨by simpa using i,by simpa using m⟩
  .omega
theorem zI1 {k:Str} : ∀ {l:Kvs},Srt l-> ∀h:Nd.whereN (leafOf l) k<l.length,ltS l[Nd.whereN (leafOf l) k].1 k=false:=fun {l} f h=>by
 have a:=XG (key:=k) f;rw[zK h]at a;have:=List.find?_some a;simpa using this
theorem JW {k v:Str} : ∀ {l:Kvs},Srt l->(∀p∈l,p.1≠k)->putP k v l=l.take (Nd.whereN (leafOf l) k)++(k,v)::l.drop (Nd.whereN (leafOf l) k)
 | [],_,_=>rfl
 | (a,b)::l,hs,hn=>by
  have f:a≠k:=hn (a,b) (zJ ..);have j:=JW (v:=v) hs.2 fun p hp=>hn p (zE _ hp)
  rw[Nd.where_cons hs];simp only[putP]
  cases i:ltS a k with
  | true=>
   have h:ltS k a=false:=dJ i;simp[h,j,Ne.symm f,f]
  | false=>
   have h:ltS k a=true:=by
    cases hb:ltS k a with
    | true=>rfl
    | false=>exact absurd (QN i hb) f
   simp[h,Ne.symm f,f]
theorem ZL {k:Str}(h:lookP k w=none): ∀p∈w,p.1≠k:=by
 induction w with
 | nil=>simp
 | cons q w ih=>
  obtain⟨a,b⟩:=q;simp only[lookP]at h;split at h
  .cases h
  .rename_i e;intro p hp;rcases zO.1 hp with rfl | hp
   .exact e
   .exact ih h p hp
end Go.Eng.Sh
end
section
namespace Go.Eng
theorem wG.stk (k:wG h q A t B M): ∃f,Stk h f A t B M:=by
 rcases k with⟨a,⟨rfl,rfl⟩ | ⟨e,rfl,i,j⟩⟩ | ⟨a,e,f,g,rfl,i,j,m⟩
 .exact⟨q,a, .inl ⟨rfl,rfl⟩⟩
 .exact⟨q,a, .inr ⟨e,1,M,true,B,rfl,i,j,a,zP _,zZ (by omega), .inr ⟨rfl,rfl⟩⟩⟩
 .exact⟨f,a, .inr ⟨e,2*B,M,g,B,rfl,i,j,a,zP _,zZ (by omega), .inl rfl⟩⟩
theorem wG.hi {k e n i:Nat}{H:AH}{v:AV}{l:List AV}(h:wG k e H v n l)(a:0<k)(hi:i<=n): ∃r,vD k v none (some (.int .i64 (i:Nat))) none H=some r/\Rw k H r i (l.take (i*k)):=by
 obtain⟨o,f⟩:=h.stk;obtain⟨r,j,m,_⟩:=f.cut a hi .i64;exact⟨r,j,m.row⟩
end Go.Eng
namespace Go.Eng.Sh
open Go.Nd (Ptr sumL leafOf Kvs Srt mayK putP delP lookP)
open Go.Bt
theorem QV: ∀(l:Kvs) (i:Nat),(l.flatMap prV).take (i*2)=(l.take i).flatMap prV
 | [],i=>by simp
 | p::l,0=>by simp
 | p::l,i+1=>by
  rw[qL,List.take_succ_cons,qL,<-QV l i,show(i+1)*2=2+i*2 by omega,List.take_append,show(prV p).length=2 from rfl,zZ (show(prV p).length<=2+i*2 by show 2<=_;omega),show 2+i*2 - 2=i*2 by omega]
theorem XM: ∀(l:Kvs) (i:Nat),(l.flatMap prV).drop (i*2)=(l.drop i).flatMap prV
 | [],i=>by simp
 | p::l,0=>by simp
 | p::l,i+1=>by
  rw[qL,List.drop_succ_cons,<-XM l i,show(i+1)*2=2+i*2 by omega,<-List.drop_drop];rfl
theorem fL (l:Kvs):jV (l.flatMap prV)=true:=by
 rw[wK];intro x a;obtain⟨p,_,a⟩:=List.mem_flatMap.1 a;simp only[prV,zO,List.not_mem_nil,or_false]at a;rcases a with rfl | rfl<;>rfl
def PrG (H:AH)(v:AV)(l:Kvs):Prop:=wG 2 48 H v l.length (l.flatMap prV)/\(l=[]->v= .nS)
theorem PrG.prs (h:PrG A t w)(s:Prs A G):PrG G t w:=⟨h.1.mono s (fun _ _ x=>x),h.2⟩
theorem PrG.row {H:AH}{v:AV}{l:Kvs}(h:PrG H v l):zDL H v l:=h.1.row
theorem QU {k:Str}(f:Srt w):(lookP k w=none-> ∀h:Nd.whereN (leafOf w) k<w.length,w[Nd.whereN (leafOf w) k].1≠k)/\(∀v,lookP k w=some v-> ∃h:Nd.whereN (leafOf w) k<w.length,w[Nd.whereN (leafOf w) k].1=k):=by
 have h:=Nd.here_look k f;have m:(leafOf w).keys.length=w.length:=jH ..;constructor
 .intro i a e;exact ZL i _ (yJ a) e
 .intro v j;rw[j]at h;simp only[Nd.hereN,jM,zF,zQ]at h;have a:Nd.whereN (leafOf w) k<w.length:=by omega
  refine⟨a, ?_⟩;have:=h.2;rw[qG,zK h.1,yB]at this;have e:(leafOf w).keys[Nd.whereN (leafOf w) k]'h.1=(w[Nd.whereN (leafOf w) k]'a).1:=List.getElem_map ..;exact e.symm.trans this
theorem JE (k:Str)(l:Kvs):Nd.whereN (leafOf l) k<=l.length:=by
 have:=Nd.whereN_le (leafOf l) k;have a:(leafOf l).keys.length=l.length:=jH ..;omega
theorem zA1 (a:Srt w)(l:h<w.length){k:Str}(f:w[h].1=k):w=w.take h++[w[h]]++w.drop (h+1)/\(∀p∈w.take h,ltS p.1 k=true)/\ ∀p∈w.drop (h+1),ltS k p.1=true:=by
 have e:w=w.take h++[w[h]]++w.drop (h+1):=VU (zK l);rw[e]at a;obtain⟨i,o,j⟩:=aJ.1 a;obtain⟨q,h5,m⟩:=aJ.1 i;refine⟨e,fun p hp=> ?_,fun p hp=> ?_⟩
 .have:=m p hp w[h] (by simp);rw[f]at this;exact this
 .have:=j w[h] (qY _ (yF.2 rfl)) p hp;rw[f]at this;exact this
theorem zJZ (f:Srt w)(l:h<w.length){k:Str}(v:Str)(a:w[h].1=k):putP k v w=w.take h++(k,v)::w.drop (h+1):=by
 obtain⟨e,i,j⟩:=zA1 f l a
 conv=>lhs;rw[e]
 rw[zFz i j];have:putP k v [w[h]]=[(k,v)]:=by
  have m:w[h]=(k,w[h].2):=by rw[<-a]
  rw[m];simp[putP]
 rw[this];simp
theorem zKC (f:Srt w)(l:h<w.length){k:Str}(a:w[h].1=k):delP k w=w.take h++w.drop (h+1):=by
 obtain⟨e,i,j⟩:=zA1 f l a
 conv=>lhs;rw[e]
 rw[zGZ i j];have:delP k [w[h]]=[]:=by
  have m:w[h]=(k,w[h].2):=by rw[<-a]
  rw[m];simp[delP]
 rw[this];simp
def GrP (H:AH)(v:AV)(l:Kvs):Prop:=wG 2 48 H v l.length (l.flatMap prV)
theorem GrP.prs (h:GrP A t w)(s:Prs A G):GrP G t w:=h.mono s (fun _ _ x=>x)
theorem GrP.row {H:AH}{v:AV}{l:Kvs}(h:GrP H v l):zDL H v l:=wG.row h
theorem GrP.hi {H:AH}{v:AV}{l:Kvs}(h:GrP H v l){i:Nat}(hi:i<=l.length): ∃r,vD 2 v none (some (.int .i64 (i:Nat))) none H=some r/\Rw 2 H r i ((l.flatMap prV).take (i*2)):=wG.hi h (by decide) hi
theorem loG (l:GrP A t w)(hi:h<=w.length): ∃r,vD 2 t (some (.int .i64 (h:Nat))) none none A=some r/\zDL A r (w.drop h):=by
 by_cases m:h<w.length
 .obtain⟨r,f,v,_⟩:=QG l (by decide) m .i64;rw[XM]at v;exact⟨r,f,by rw[zDL,qJ];exact v⟩
 .obtain rfl:h=w.length:=by omega
  by_cases o:0<w.length
  .obtain⟨r,f,v⟩:=YU l (by decide) o .i64;exact⟨r,f,by rw[List.drop_length];exact v⟩
  .have hl:w=[]:=zR (by omega);subst hl;rcases id l with⟨_,⟨rfl,_⟩ | ⟨H,rfl,p,j⟩⟩ | ⟨_,H,q,g,rfl,p,j,_⟩
   .exact⟨.nS,rfl,Rw.nil _ _⟩
   .refine⟨.slice H 0 0 1, ?_,GrP.row l⟩;show vD 2 (.slice H 0 0 1) (some (.int .i64 (.ofNat 0))) none none A=_;have a:A.h.get H=some (.cells [] 48 2 true):=j;simp only[vD,kX,aO,a];rfl
   .refine⟨.slice H 0 0 0, ?_,GrP.row l⟩;show vD 2 (.slice H 0 0 0) (some (.int .i64 (.ofNat 0))) none none A=_;have a:A.h.get H=some (.cells [] q 2 g):=j;simp only[vD,kX,aO,a];rfl
theorem zLK (hk:A.ok)(v:GrP A t w)(hj:h<=w.length)(a2:q<=w.length)(hl:w.length<=100000000)(a x:Str):
  ∃H u L i C l y o F p G I,(∀(J:Nat->AV) (K:AV->AH->Rs),bA (some (.cells [] 48 2 false,J)) A K=K (J u) H)/\vD 2 t none (some (.int .i64 (h:Nat))) none H=some L/\(∀(J:Nat->AV) (K:AV->AH->Rs),bA (some (.cells [S a,S x] 48 2 false,J)) H K=K (J y) l)/\vD 2 t (some (.int .i64 (q:Nat))) none none l=some i/\
   apP 48 2 32 (.slice u 0 0 0) L l=some (C,o)/\vD 2 t (some (.int .i64 (q:Nat))) none none o=some i/\aveq i i=true/\
   apP 48 2 32 C (.slice y 0 1 2) o=some (F,p)/\vD 2 t (some (.int .i64 (q:Nat))) none none p=some i/\apP 48 2 32 F i p=some (G,I)/\Prs A H/\Prs A l/\Prs A o/\Prs A p/\Prs A I/\GrP I G (w.take h++(a,x)::w.drop q)/\ ∀B,Blk G B->A.next<=B:=by
 obtain⟨H,u,b1,z,g1,m1,n1⟩:=box hk (.cells [] 48 2 false);have h1:=v.prs z;obtain⟨L,c1,q1⟩:=h1.hi hj;rw[QV]at q1;obtain⟨l,y,b2,s,g2,m2,n2⟩:=box z.ok (.cells [S a,S x] 48 2 false);have M:=z.trans s;have h2:=v.prs M;obtain⟨i,c2,q2⟩:=loG h2 a2;have G1:wG 2 48 l (.slice u 0 0 0) 0 []:= .inr ⟨rfl,u,48,false,rfl,by have:=s.next;omega,zOM s z.ok g1,rfl⟩
 obtain⟨C,o,e3,G3,N,f3⟩:=G1.app (bytes:=32) s.ok (by decide) (Rw.prs q1 s).srcOf q1.len (fL _) (by omega) (by decide);have N1:=z.next;have N2:=s.next;have N3:=N.next
 have T:Prs A o:=M.fresh N (fun B f=>by rw[zOG.1 f];exact m1);have h3:=v.prs T;have a3:o.h.get y=some (.cells [S a,S x] 48 2 false):=by
  rw[N.keep _ (s.ok.lt g2) (fun f=>by have:=zOG.1 f;omega)];exact g2
 have a0:srcOf 2 (.slice y 0 1 2) o=some (1,[S a,S x]):=by simp only[srcOf,a3];rfl
 obtain⟨F,p,e4,G4,O,f4⟩:=G3.app (bytes:=32) (m:=1) (new:=[S a,S x]) N.ok (by decide) a0 rfl rfl (by omega) (by decide);have N4:=O.next
 have W: ∀B,Blk C B->A.next<=B:=fun B f=>by
  rcases f3 B f with e | e
  .rw[zOG.1 e];exact m1
  .omega
 have Q:Prs A p:=T.fresh O W;have h4:=v.prs Q;have Y:zDL p i (w.drop q):=by
  have a4:Stp (fun B=>A.next<=B) l p:=⟨O.ok,by omega,fun B f hS=>by
   rw[Q.keep B (by omega) (fun x=>x),M.keep B (by omega) (fun x=>x)]⟩
  exact Rw.stp q2 a4 (fun B f a6=>by
   have:=v.lt (YV c2 B f);omega)
 obtain⟨G,I,e5,U,s5,f5⟩:=G4.app (bytes:=32) O.ok (by decide) Y.srcOf Y.len (fL _) (by simp;omega) (by decide);have Z: ∀B,Blk F B->A.next<=B:=fun B f=>by
  rcases f4 B f with e | e
  .exact W B e
  .omega
 have V: ∀ {H':AH},GrP H' t w->vD 2 t (some (.int .i64 (q:Nat))) none none H'=some i:=fun {H'} h'=>by
  rw[uC h2 h' (by decide)];exact c2
 refine⟨H,u,L,i,C,l,y,o,F,p,G,I,b1,c1,b2,c2,e3,V h3,kR q2,e4,V h4,e5,z,M,T,Q,Q.fresh s5 Z, ?_,fun B f=> ?_⟩
 .have a1:0+h+1+(w.drop q).length=(w.take h++(a,x)::w.drop q).length:=by
   simp only[zV,qC,zY,qJ];omega
  rw[a1]at U;have a5:[]++(w.take h).flatMap prV++[S a,S x]++(w.drop q).flatMap prV=(w.take h++(a,x)::w.drop q).flatMap prV:=by
   simp[prV]
  rw[a5]at U;exact U
 .rcases f5 B f with e | e
  .exact Z B e
  .omega
theorem zMl (T:A.ok)(v:GrP A t w)(U:h<=w.length)(O:q<=w.length)(hl:w.length<=100000000):
  ∃f o u i l a s H,(∀(J:Nat->AV) (K:AV->AH->Rs),bA (some (.cells [] 48 2 false,J)) A K=K (J o) f)/\vD 2 t none (some (.int .i64 (h:Nat))) none f=some u/\vD 2 t (some (.int .i64 (q:Nat))) none none f=some i/\
   apP 48 2 32 (.slice o 0 0 0) u f=some (l,a)/\vD 2 t (some (.int .i64 (q:Nat))) none none a=some i/\aveq i i=true/\apP 48 2 32 l i a=some (s,H)/\Prs A f/\Prs A a/\Prs A H/\GrP H s (w.take h++w.drop q)/\ ∀B,Blk s B->A.next<=B:=by
 obtain⟨f,o,b1,p,V,L,W⟩:=box T (.cells [] 48 2 false);have C:=v.prs p;obtain⟨u,c1,q1⟩:=C.hi U;rw[QV]at q1;obtain⟨i,c2,q2⟩:=loG C O;have Y:wG 2 48 f (.slice o 0 0 0) 0 []:= .inr ⟨rfl,o,48,false,rfl,W,V,rfl⟩;obtain⟨l,a,Z,G3,y,f3⟩:=Y.app (bytes:=32) p.ok (by decide) q1.srcOf q1.len (fL _) (by omega) (by decide);have N1:=p.next;have N3:=y.next
 have z:Prs A a:=p.fresh y (fun B m=>by rw[zOG.1 m];exact L);have h3:=v.prs z;have G: ∀B,Blk l B->A.next<=B:=fun B m=>by
  rcases f3 B m with e | e
  .rw[zOG.1 e];exact L
  .omega
 have I:zDL a i (w.drop q):=by
  have Q:Stp (fun B=>A.next<=B) f a:=⟨y.ok,by omega,fun B m hS=>by
   rw[z.keep B (by omega) (fun x=>x),p.keep B (by omega) (fun x=>x)]⟩
  exact Rw.stp q2 Q (fun B m a0=>by
   have:=v.lt (YV c2 B m);omega)
 obtain⟨s,H,e5,F,s5,f5⟩:=G3.app (bytes:=32) y.ok (by decide) I.srcOf I.len (fL _) (by simp;omega) (by decide);have M:vD 2 t (some (.int .i64 (q:Nat))) none none a=some i:=by
  rw[uC C h3 (by decide)];exact c2
 refine⟨f,o,u,i,l,a,s,H,b1,c1,c2,Z,M,kR q2,e5,p,z,z.fresh s5 G, ?_,fun B m=> ?_⟩
 .have N:0+h+(w.drop q).length=(w.take h++w.drop q).length:=by
   simp only[zV,qC,qJ];omega
  rw[N]at F;have S:[]++(w.take h).flatMap prV++(w.drop q).flatMap prV=(w.take h++w.drop q).flatMap prV:=by simp
  rw[S]at F;exact F
 .rcases f5 B m with e | e
  .exact G B e
  .omega
end Go.Eng.Sh
end
section
namespace Go.Eng
theorem zBb {a:Addr}(w:V.cells? h a q=some Y)(v:0<q):a.spot=none/\ ∃arr e m,V.heap[a.block]? =some (.cells arr e m)/\ ∀j,j<q->arr[a.off+j]? =Y[j]? :=by
 obtain⟨_,hl,t⟩:=World.cells?_some w;have u:=t 0 v;rw[zK (by omega)]at u;obtain⟨c1,arr,x,m,p,_⟩:=zBc u;have base:a.spot=none:=by simpa[Addr.add]using c1
 obtain⟨b,o,F⟩:=a;simp only at base;subst base;have hb:(Addr.add ⟨b,o,none⟩ 0).block=b:=by simp[Addr.add]
 rw[hb]at p;refine⟨rfl,arr,x,m,p,fun j y=> ?_⟩;have s:=t j y;rw[zK (by omega)]at s⊢;obtain⟨_,arr',z,C,f,i⟩:=zBc s;rw[xH]at f i;simp only at f i;rw[p]at f;simp only[zC,Obj.cells.injEq]at f;rw[<-f.1]at i;exact i
theorem zC2 {α β:Type}{k:Nat}{g:α->List β}(a: ∀s,(g s).length=k): ∀l:List α,(l.flatMap g).length=l.length*k
 | []=>by simp
 | s::l=>by rw[qL,zV,zC2 a l,a,zY,jO,Nat.add_comm]
theorem zGi {α β:Type}{k:Nat}{g:α->List β}(a: ∀s,(g s).length=k): ∀(l:List α) (i j:Nat) (hi:i<l.length),j<k->(l.flatMap g)[i*k+j]? =(g l[i])[j]?
 | s::l,0,j,_,hj=>by
  rw[qL,Nat.zero_mul,j7,j5 (by rw[a];exact hj)];rfl
 | s::l,i+1,j,h,hj=>by
  have f:=zGi a l i j (by simpa using h) hj;rw[qL,jC (by rw[a,jO];omega)];have:(i+1)*k+j - (g s).length=i*k+j:=by rw[a,jO];omega
  rw[this,f];rfl
theorem srows_arg {α:Type}[Inhabited α]{enc:TypeId×Value->f}{P:Program}{x:DataW f×List MemPlace}{t e:TypeId}{k:Nat}(F:0<k){vals:α->List Value}(L: ∀s,(vals s).length=k){good:α->Prop}(Z:P.underlying t=some (.slice e))(hc:P.cellsOf e=k)
  (hd: ∀ {q:Nat} {cs:List Value} {x:DataW f×List MemPlace},DataW.trod enc P V h (fun _=>true) U q e cs=some x-> ∃s,cs=vals s/\good s)
  (base:DataW.trod enc P V h (fun _=>true) U q t [j]=some x):
  ∃l:List α,Rw k (H0 V) (cB V.heap.size j) l.length (l.flatMap fun s=>(vals s).map (cellAV V.heap.size))/\ ∀s∈l,good s:=by
 have C: ∀s,((vals s).map (cellAV V.heap.size)).length=k:=fun s=>by rw[jH,L]
 rcases Deep.open_slice Z base with⟨y,_⟩ | ⟨a,len,cap,m,n,D,Pl,y,_,hl,_,hm,_,O⟩
 .simp only[y9,and_true]at y;subst y;exact⟨[],⟨by simp, .inl ⟨rfl,rfl⟩⟩,by simp⟩
 .simp only[y9,and_true]at y;subst y;simp only[if_true]at hm;subst hm;by_cases h0:m=0
  .subst h0;obtain rfl:len=0:=by omega
   exact⟨[],⟨by simp, .inr (.inl ⟨rfl,rfl⟩)⟩,by simp⟩
  .simp only[hc]at O;have hp: ∀i,i<m-> ∃p:α,V.cells? h (a.add (i*k)) k=some (vals p)/\good p:=fun i hi=>by
    obtain⟨cs,k1,k2⟩:=O i hi;obtain⟨p,rfl,hs⟩:=hd k2;exact⟨p,k1,hs⟩
   obtain⟨G,I⟩:=Deep.choose_lt hp;obtain⟨b,o,sp⟩:=a;obtain⟨c1,arr,te,fz,H,a0⟩:=zBb (I 0 (by omega)).1 F;have W:sp=none:=by simpa[Addr.add]using c1
   subst W;rw[xH]at H;simp only at H;have M: ∀i,i<m-> ∀v,v<k->arr[o+i*k+v]? =(vals (G i))[v]? :=fun i hi v hj=>by
    obtain⟨_,arr',a1,a2,u,J⟩:=zBb (I i hi).1 F;rw[xH]at u J;simp only at u J;rw[H]at u;simp only[zC,Obj.cells.injEq]at u;rw[u.1];exact J v hj
   have a3:(m - 1)*k+k=m*k:=by rw[<-jO,Nat.succ_eq_add_one,Nat.sub_add_cancel (by omega)]
   have a4:o+m*k<=arr.size:=by
    have Q:=M (m - 1) (by omega) (k - 1) (by omega);rw[zK (by rw[L];omega)]at Q;have:=(Array.getElem?_eq_some_iff.1 Q).1;omega
   have a5:len*k<=m*k:=yR _ (by omega);rw[zJw V (by omega) (zG8 H)];refine⟨(List.range len).map G,⟨zC2 C _, .inr (.inr ⟨b,o,2*m,_,te,0,false,by simp,zJO V H,zG8 H,by simp;omega, ?_⟩)⟩, ?_⟩
   .apply List.ext_getElem?;intro z;simp only[jH,List.length_range];by_cases S:z<len*k
    .have Y:z / k<len:=Nat.div_lt_of_lt_mul (by rw[Nat.mul_comm];exact S);have N:z % k<k:=Nat.mod_lt _ F;have T:z / k*k+z % k=z:=by rw[Nat.mul_comm];exact Nat.div_add_mod z k
     rw[jJ S,jL,jP,yX];have K:=M (z / k) (by omega) (z % k) N;rw[Nat.add_assoc,T]at K;have w:=zGi C ((List.range len).map G) (z / k) (z % k) (by simpa using Y) N;rw[T]at w;rw[K,w,jP];simp only[List.getElem_map,List.getElem_range]
    .rw[List.getElem?_eq_none (by simp;omega),List.getElem?_eq_none (by rw[zC2 C];simp;omega)]
   .intro p hp;obtain⟨i,hi,rfl⟩:=qM.1 hp;exact(I i (by have:=List.mem_range.1 hi;omega)).2
end Go.Eng
end
section
namespace Go.Eng.Sh
open Go.Nd (Ptr sumL leafOf Kvs Srt mayK putP delP lookP)
open Go.Bt Go.Bk
def rootOk (p:Ptr):Prop:=Nd.mayP p=true/\Nd.sumOk p/\p.at_≠1
theorem zBL:rootOk pZ:=⟨rfl,by simp[Nd.sumOk,pZ],by simp[pZ]⟩
theorem zIn (h:l.K v=some E):rootOk v:=by
 have i:=gG h;obtain⟨a,birth,kind,body,rfl,_⟩:=zOI.1 h;exact⟨Nd.kidOk_may i.1,⟨by simp[bN],by have:=zKZ (sealB kind birth body);simp only[bN];omega⟩,by omega⟩
theorem v5.rootOk {E:Ev}{p:Ptr}{kv:Kvs}{T:List Ptr}(h:v5 E [] p kv T):Sh.rootOk p:=by
 rcases h with⟨rfl,_⟩ | ⟨h,j,t,S,f,_⟩
 .exact zBL
 .obtain⟨s,rfl,a | ⟨_,a⟩⟩ | ⟨_,i⟩:=vT f
  .simp[jZ]at a
  .simp[jZ]at a
  .exact zIn i
theorem zCL(O:100<=n){E:Ev}(F:A.ok){Ad:Nat}{p:Ptr}{kv:Kvs}{T:List Ptr}(hd: ∃m o q t,DkI A Ad E.nb E.ws m o q t)(hr:v5 { E with dl:=[] } [] p kv T)(Q: ∀B,E.x B->B<A.next:=by intro _ h;exact False.elim h):
  ∃H' a M W,f18 D n [.ptr Ad 0, .nP, .agg (jX p)] A=some (.tuple [.ptr a 0, .int .i64 (0:Nat)],H')/\Prs A H'/\uV (.ptr Ad 0) .nP { E with dl:=[] } H' a M 0 W p [] kv T/\(∀B,W B->A.next<=B):=by
 obtain⟨I,J,a0⟩:=hr.rootOk;obtain⟨S,u,b1,f,v,m1,n1⟩:=box F (.cells (jX p) 42 1 false);obtain⟨G,U,i⟩:=zAV D n f.ok I J O;obtain⟨H3,M,V,j,Y,m3,n3⟩:=box i.ok (.map [10] []);obtain⟨Z,a,b4,y,g4,m4,n4⟩:=box j.ok (.cells (wQ (.ptr Ad 0) .nP p M 0 .nS) 140 1 false);have N1:=f.next;have N2:=i.next;have N3:=j.next
 have K:=f.trans i;have z:=(K.trans j).trans y;obtain⟨m,o,q,t,dk⟩:=hd;refine⟨Z,a,M,fun B=>B=a\/B=M\/Blk .nS B, ?_,z,⟨.nS,[],0,rfl,⟨y.ok,g4,zOM y j.ok Y,trivial,⟨Ad,m,o,q,t,_,rfl,dk.prs F z,zJM.self _⟩, .inl rfl, .inl (zOP ..),by simp,by simp,fun B C=>qI (Q B C) z.next⟩,fun s nd h=>by simp[jZ]at h,by simp,by omega,by simp,hr,fun B=>Iff.rfl⟩,fun B C=> ?_⟩
 .have r1:ldN 3 (.ptr u 0) S=some (.agg (jX p)):=by rw[jW v];rfl
  have r2:ldN 3 (.ptr u 0) G=some (.agg (jX p)):=by rw[jW (zOM i f.ok v)];rfl
  have r3:Eng.ld1 (.ptr u 0) G=some (.int .i64 p.at_):=by rw[jR (zOM i f.ok v)];rfl
  have L: ¬(((0:Nat):Int)≠((0:Nat):Int)):=by omega
  have N: ¬p.at_=((1:Nat):Int):=by omega
  have bs:uO [(0,1),(1,1),(2,3),(5,1),(6,1),(7,1)] [.nP, .nP, .int .i64 (0:Nat), .int .i64 (0:Nat), .int .u64 (0:Nat), .nM, .int .u64 (0:Nat), .nS] [(0, .ptr Ad 0),(1, .nP),(2, .agg (jX p)),(3, .map M)]=some (.agg (wQ (.ptr Ad 0) .nP p M 0 .nS)):=rfl;simp(maxSteps:=999999)(disch:=omega) only[f18,eZ,b1,cq,r1,U,jS,nth,L,r3,N,r2,mkM,V,bs,b4]
 .rcases C with rfl | rfl | e
  .omega
  .omega
  .exact(zOO.1 e).elim
structure Wld (E:Ev)(H:AH)(Wd Ad As At M L txg la:Nat)(is:Nat->Nat)(V W:Nat->Prop)(root:Ptr)(q:PN)(kv:Kvs)(T:List Ptr):Prop where
 tx:uV (.ptr Ad 0) .nP E H At M L W root q kv T
 ds:Dsk H Ad As E.nb E.ws la is V
 us: ∀r∈dsk T++E.dl,is r.at_.toNat≠0
 gW: ∃lv,H.h.get Wd=some (.cells [.ptr Ad 0, .ptr As 0, .ptr At 0, .int .i64 txg,lv] 39 1 false)/\GrP H lv kv
theorem JZ (u:uV t F l A B C I s v e w H)(V:Dsk A h q N P J i k){o:AObj}(a:A.h.get Q=some o)(Ad:(∃E W g,o= .cells E W 2 g)\/ ∃E,o= .cells E 39 1 false): ¬s Q/\ ¬k Q:=by
 obtain⟨U,es,S,_,f,_,_,_,_,_,x⟩:=u;obtain⟨Y,Z,wv,dm,nb,y,z,_⟩:=V;obtain⟨c8,m⟩:=y.bk;have is: ∀E W g,o≠ .cells E W 3 g:=by rcases Ad with⟨_,_,_,rfl⟩ | ⟨_,rfl⟩<;>simp
 have G: ∀E W g,o≠ .cells E W 513 g:=by rcases Ad with⟨_,_,_,rfl⟩ | ⟨_,rfl⟩<;>simp
 have j: ∀E W,o≠ .map E W:=by rcases Ad with⟨_,_,_,rfl⟩ | ⟨_,rfl⟩<;>simp
 have p: ∀E,o≠ .cells E 140 1 false:=by rcases Ad with⟨_,_,_,rfl⟩ | ⟨_,rfl⟩<;>simp
 have M: ∀E,o≠ .cells E 145 1 false:=by rcases Ad with⟨_,_,_,rfl⟩ | ⟨_,rfl⟩<;>simp
 have K: ∀E,o≠ .cells E 151 1 false:=by rcases Ad with⟨_,_,_,rfl⟩ | ⟨_,rfl⟩<;>simp
 constructor
 .intro L;rcases(x Q).1 L with rfl | rfl | W
  .exact p _ (yG (a.symm.trans f.gT))
  .exact j _ _ (yG (a.symm.trans f.gM))
  .exact zON f.dg a (fun O g=>is _ O g) W
 .intro d;rcases(z Q).1 d with rfl | rfl | rfl | W
  .exact M _ (yG (a.symm.trans m))
  .exact K _ (yG (a.symm.trans nb.gD))
  .exact j _ _ (yG (a.symm.trans nb.gN))
  .exact G _ _ _ (yG (a.symm.trans (nb.ow.get W)))
theorem wG.get2 (k:wG h q A t B M)(a:Blk t C): ∃M q g,A.h.get C=some (.cells M q h g):=by
 rcases k with⟨_,⟨rfl,_⟩ | ⟨e,rfl,_,f⟩⟩ | ⟨_,e,i,g,rfl,_,f,_⟩
 .exact(zOO.1 a).elim
 .rw[zOG.1 a];exact⟨_,_,_,f⟩
 .rw[zOG.1 a];exact⟨_,_,_,f⟩
theorem v5.srt (h:v5 l e v w H):Srt w/\ ∀p∈w,mayK p.1=true/\p.2.length<=200:=by
 rcases h with⟨_,rfl,_⟩ | ⟨h,j,t,S,_,_,E,_,rfl,_⟩
 .exact⟨trivial,by simp⟩
 .refine⟨zN1 E, ?_⟩
  cases h with
  | zero=>exact fun p hp=>⟨(E.1.2 p hp).2.2.1,(E.1.2 p hp).2.2.2⟩
  | succ h=>
   intro p hp;obtain⟨x,f,a⟩:=List.mem_flatMap.1 hp;obtain⟨i,hi,rfl⟩:=jQ f;exact zOe (E.1.2.2.at (zK hi)) p a
theorem zHx(H:AH):f36 D n [.int .i64 (0:Nat)] H=some (.tuple [.nP, .int .i64 (1:Nat)],H):=by
 have a:((0:Nat):Int)< ((1:Nat):Int):=by omega
 simp(maxSteps:=999999)(disch:=omega) only[f36,eZ,a]
theorem zHq(t:100<=n)(I:A.ok): ∃H' i Ad a f M V W,f15 D n [.int .i64 (0:Nat)] A=some (.ptr i 0,H')/\Prs A H'/\Wld ⟨512,[],[],fun _=>False,False⟩ H' i Ad a f M 0 0 0 zBT V W pZ [] [] []/\(∀B,V B\/W B\/B=i->A.next<=B):=by
 obtain⟨H1,Ad,u,o,J,j,m1,mO,mN,K⟩:=zJ4 D n I (nb:=512) (by omega) (by omega);obtain⟨L,a,N,h,m2,O⟩:=zL7 D n t j.ok (nb:=512) (by omega) (by omega);have Q:=zHx D n L;have s:=K.prs j.ok h;obtain⟨H4,f,M,W,S,q,U,z⟩:=zCL D n t (E:=⟨512,[],[],fun _=>False,False⟩) h.ok (p:=pZ) (kv:=[]) (T:=[]) ⟨u,o,_,_,s⟩ (.inl ⟨rfl,rfl,rfl⟩);obtain⟨Y,i,Z,v,g5,m5,n5⟩:=box q.ok (.cells [.ptr Ad 0, .ptr a 0, .ptr f 0, .int .i64 (0:Nat), .nS] 39 1 false);have N1:=j.next;have N2:=h.next;have N4:=q.next
 have m:=q.trans v;have C:=O.stp h.ok m fun x=>x
 have F:=s.prs h.ok m;refine⟨Y,i,Ad,a,f,M,fun B=>B=a\/B=Ad\/B=o\/Blk .nS B,W, ?_,(j.trans h).trans m,⟨?_,⟨u,o,_,_,F,C,fun B=>Iff.rfl,by decide,by decide,by decide, .inr rfl,⟨by decide,by decide⟩, ?_⟩,by simp[dsk],⟨.nS,g5, .inl (zOP ..)⟩⟩,fun B hB=> ?_⟩
 .have G: ¬(((0:Nat):Int)≠((0:Nat):Int)):=by omega
  have bz:uO [(0,1),(1,1),(2,1)] [.int .i64 (0:Nat), .int .i64 (0:Nat), .int .u64 (0:Nat)] []=some (.agg (jX pZ)):=rfl;have bs:uO [(0,1),(1,1),(2,1),(3,1),(4,1)] [.nP, .nP, .nP, .int .i64 (0:Nat), .nS] [(0, .ptr Ad 0),(1, .ptr a 0),(2, .ptr f 0)]=some (.agg [.ptr Ad 0, .ptr a 0, .ptr f 0, .int .i64 (0:Nat), .nS]):=rfl;simp(maxSteps:=999999)(disch:=omega) only[f15,eZ,J,N,Q,jS,nth,bz,S,G,bs,Z]
 .obtain⟨dr,es,y,h1,h2,h3⟩:=U;exact⟨dr,es,y,h1,h2.prs v,h3⟩
 .have:=zB5 zBT 0 512;show 0+cnt zBT 0 512<=990000;omega
 .rcases hB with(e | e | e | e) | e | e
  .omega
  .omega
  .omega
  .exact(zOO.1 e).elim
  .have:=z B e;omega
  .omega
structure Sp where
 kd:Nat
 k:Str
 v:Str
 nr:Int
def spV (s:Sp):List AV:=[.int .u8 s.kd,S s.k,S s.v, .int .i64 s.nr]
def bQ (s:Sp)(kv:Kvs):Kvs:=if s.kd % 2=0 then(if ZF s.k s.v then putP s.k s.v kv else kv)else(if mayK s.k then delP s.k kv else kv)
theorem zLV{lv:AV}(key:Str)(g:A.h.get h=some (.cells [t,F,W,c,lv] 39 1 false))(hl:zDL A lv w)(x:Srt w)(K:w.length<n)(hb:w.length<=100000000):
  f22 D n [.ptr h 0,S key] A=some (.int .i64 (Nd.whereN (leafOf w) key:Nat),A):=by
 have a:Eng.ld1 (.ptr h 4) A=some lv:=by rw[jR g];rfl
 have L:=JE key w;have G: ∀c i f,i+c=Nd.whereN (leafOf w) key->c<f->kL f (zEj D n) [.ptr h 0,S key, .int .i64 ((i:Nat):Int)] A=some (.exit 0 [.int .i64 (Nd.whereN (leafOf w) key:Nat)],A):=by
  intro c
  induction c with
  | zero=>
   intro i f hi C;obtain⟨f,rfl⟩: ∃m,f=m+1:=⟨f - 1,by omega⟩;obtain rfl:i=Nd.whereN (leafOf w) key:=by omega
   refine kD ?_;by_cases p:Nd.whereN (leafOf w) key<w.length
   .have b:=zI1 x p;obtain⟨H,o,u,I,v,J⟩:=hl.at p;have q:Eng.ld1 (.ptr H (o+0)) A=some (S w[Nd.whereN (leafOf w) key].1):=v;have j:((Nd.whereN (leafOf w) key:Nat):Int)< (w.length:Int):=by omega
    have s:J6 .lss (S w[Nd.whereN (leafOf w) key].1) (S key)=some (.bool false):=by rw[UX,b]
    simp(maxSteps:=999999)(disch:=omega) only[zEj,eZ,a,hl.lnSl,j,u,q,s]
   .have j: ¬((Nd.whereN (leafOf w) key:Nat):Int)< (w.length:Int):=by omega
    simp(maxSteps:=999999)(disch:=omega) only[zEj,eZ,a,hl.lnSl,j]
  | succ c ih=>
   intro i f hi C;obtain⟨f,rfl⟩: ∃m,f=m+1:=⟨f - 1,by omega⟩;obtain⟨p,z⟩:=zCn (k:=key) x i (by omega);obtain⟨H,o,u,I,v,J⟩:=hl.at p;have q:Eng.ld1 (.ptr H (o+0)) A=some (S w[i].1):=v;have j:((i:Nat):Int)< (w.length:Int):=by omega
   have s:J6 .lss (S w[i].1) (S key)=some (.bool true):=by rw[UX,z]
   have hi1:((i:Nat):Int)+((1:Nat):Int)=((i+1:Nat):Int):=by omega
   refine(wB ?_).trans (ih (i+1) f (by omega) (by omega));simp(maxSteps:=999999)(disch:=omega) only[zEj,eZ,a,hl.lnSl,j,u,q,s,hi1]
 have y:=G (Nd.whereN (leafOf w) key) 0 n (by omega) (by omega);simp(maxSteps:=999999)(disch:=omega) only[f22,eZ,y,zO2]
theorem Dsk.stp {S:Nat->Prop}{H H':AH}{Ad i nb j:Nat}{m:Ws}{is:Nat->Nat}{V:Nat->Prop}(d:Dsk H Ad i nb m j is V)(o:H.ok)(s:Stp S H H')(f: ∀B,V B-> ¬S B)(q: ∀B ks es,H.h.get B=some (.map ks es)->S B->ks=[10]):Dsk H' Ad i nb m j is V:=by
 obtain⟨t,u,v,x,p,y,a,r⟩:=d;exact⟨t,u,v,x,p.stp o s (f _ ((a _).2 (.inr (.inl rfl)))) (fun h=>by have:=q _ _ _ p.gO h;simp at this) (f _ ((a _).2 (.inr (.inr (.inl rfl))))) (fun B z=>f _ ((a _).2 (.inr (.inr (.inr z))))),y.stp o s (f _ ((a _).2 (.inl rfl))),a,r⟩
theorem uV.dsk (o:uV t F l A B C I s v e w H)(u:Dsk A h q N P J i k):(∀Ad,k Ad-> ¬s Ad)/\ ∀Ad ks es,A.h.get Ad=some (.map ks es)->s Ad->ks=[10]:=by
 obtain⟨y,es,x,_,f,_,_,_,_,_,j⟩:=o;have E:=VM f u;refine⟨fun Ad M m=>E Ad ?_ M,fun Ad ks es' a m=> ?_⟩
 .rcases(j Ad).1 m with L | L | L
  .exact .inl L
  .exact .inr (.inl L)
  .exact .inr (.inr (.inl L))
 .rcases(j Ad).1 m with rfl | rfl | L
  .rw[f.gT]at a;cases a
  .rw[f.gM]at a;cases a;rfl
  .exact absurd L (zON f.dg a (fun z g=>by simp))
theorem Wld.tree {f:Ev}{t:Nat->Prop}{z:PN}{x:Kvs}(is:Wld l A h q B C I J Q R i k s v e w H)(M:uV (.ptr q 0) .nP f G C I N t r z x L)(a:AdT s A t G)(c:Chd l f H L):
  Dsk G q B f.nb f.ws R i k/\(∀y∈dsk L++f.dl,i y.at_.toNat≠0)/\ ∃lv,A.h.get h=some (.cells [.ptr q 0, .ptr B 0, .ptr C 0, .int .i64 Q,lv] 39 1 false)/\GrP A lv w/\G.h.get h=some (.cells [.ptr q 0, .ptr B 0, .ptr C 0, .int .i64 Q,lv] 39 1 false)/\GrP G lv w:=by
 obtain⟨lv,m,gl⟩:=is.gW;have u:=is.tx.d.okH;obtain⟨j,F⟩:=is.tx.dsk is.ds;refine⟨?_,fun y hr=>is.us y (c.pm.mem_iff.1 hr),lv,m,gl, ?_, ?_⟩
 .rw[c.nb,c.ws];exact is.ds.stp u a.1 j F
 .rw[a.1.keep _ (u.lt m) (JZ is.tx is.ds m (.inr ⟨_,rfl⟩)).1];exact m
 .exact gl.mono a.1 fun Ad H'=>by
   obtain⟨E,txg,g,o⟩:=wG.get2 gl H';exact(JZ is.tx is.ds o (.inl ⟨_,_,_,rfl⟩)).1
theorem Wld.prs {E:Ev}{H H':AH}{a Ad f h M L txg i:Nat}{is:Nat->Nat}{V W:Nat->Prop}{root:Ptr}{q:PN}{kv:Kvs}{T:List Ptr}(w:Wld E H a Ad f h M L txg i is V W root q kv T)(s:Prs H H'):Wld E H' a Ad f h M L txg i is V W root q kv T:=by
 obtain⟨lv,o,gl⟩:=w.gW;have j:=w.tx.d.okH;obtain⟨p,es,m,t,u,v⟩:=w.tx;exact⟨⟨p,es,m,t,u.prs s,v⟩,w.ds.prs j s,w.us,lv,zOM s j o,gl.prs s⟩
theorem Wld.note {lv:AV}(u:uV (.ptr q 0) .nP l A C I J s v e w H)(p:Dsk A q B l.nb l.ws R i k)(O: ∀r∈dsk H++l.dl,i r.at_.toNat≠0)(txg:A.h.get h=some (.cells [.ptr q 0, .ptr B 0, .ptr C 0, .int .i64 N,t] 39 1 false))(y:Stp (fun Ad=>Ad=h) A G)(L:G.h.get h=some (.cells [.ptr q 0, .ptr B 0, .ptr C 0, .int .i64 Q,lv] 39 1 false))(gl:GrP A lv w):Wld l G h q B C I J Q R i k s v e w H:=by
 have m:=u.d.okH;obtain⟨z,F⟩:=JZ u p txg (.inr ⟨_,rfl⟩);have o: ∀Ad,Blk lv Ad-> ¬Ad=h:=fun Ad a is=>by
  obtain⟨E,e',g,f⟩:=wG.get2 gl a;rw[is,txg]at f;simp at f
 obtain⟨S,es,H',U,x,Y,Z,h5,h6,h7,V⟩:=u;have a0:=VM x p;refine⟨⟨S,es,H',U, ?_,Y,Z,h5,h6,h7,V⟩,p.stp m y (fun Ad a is=>F (is▸a)) (fun Ad ks es' j is=>by rw[is,txg]at j;cases j),O,lv,L,gl.mono y o⟩;obtain⟨On,Nw,wv,dm,dk,sp,hV,_⟩:=p.stp m y (fun Ad a is=>F (is▸a)) (fun Ad ks es' j is=>by rw[is,txg]at j;cases j);refine x.wr y (fun Ad a is=> ?_) dk;subst is;rcases a with is | is | is | ⟨w,K,is⟩
 .exact z ((V _).2 (.inl is))
 .exact z ((V _).2 (.inr (.inl is)))
 .exact z ((V _).2 (.inr (.inr is)))
 .obtain⟨nd,M⟩:=x.pq.node w K;exact M.nblk txg (.inl ⟨_,_,_,_,rfl,fun _ _ f=>by cases f⟩) is
theorem st4 (i:A.ok){lv x:AV}(g:A.h.get h=some (.cells [t,F,W,c,lv] 39 1 false))(j:isCell x=true): ∃H',stN 1 (.ptr h 4) x A=some (jU,H')/\H'.h.get h=some (.cells [t,F,W,c,x] 39 1 false)/\Stp (fun B=>B=h) A H'/\H'.next=A.next:=by
 obtain⟨m,e,p,s,n⟩:=xI i g (o:=4) (x:=x) j (by simp);exact⟨m,e,p,s,n⟩
theorem zL1 (m n:Nat)(hm:300000000<=m)(hn:300000000<=n){W:Nat->Prop}(is:Sp)(h8:is.kd<256)(root:Wld l A h q B C I J N Q i s W r e w H)(hL:J<=50000000)(h9:w.length<=1000000)(d8: ¬l.bd):
  ∃H' E' M T' f7 q',f16 (dy (m+2)) n [.ptr h 0, .agg (spV is)] A=some (.bool true,H')/\Wld E' H' h q B C I (J+200) N Q i s M f7 q' (bQ is w) T'/\AdT (fun Ad=>W Ad\/Ad=h) A (fun Ad=>M Ad\/Ad=h) H'/\Chd l E' H T':=by
 have hk:=root.tx.d.okH;obtain⟨hs,i0⟩:Srt w/\ ∀p∈w,mayK p.1=true/\p.2.length<=200:=by
  obtain⟨_,_,_,_,_,_,_,_,_,hr,_⟩:=root.tx;exact hr.srt
 obtain⟨u,Z,b1,p1,g1,m1,n1⟩:=box hk (.cells (spV is) 29 1 false);have N1:=p1.next
 have w1:=root.prs p1;have f8:=p1.ok;obtain⟨lv,gW,gl⟩:=w1.gW;have lW:=f8.lt gW;have x1:Eng.ld1 (.ptr Z 1) u=some (S is.k):=by rw[jR g1];rfl
 have x2:Eng.ld1 (.ptr Z 2) u=some (S is.v):=by rw[jR g1];rfl
 have x0:Eng.ld1 (.ptr Z 0) u=some (.int .u8 is.kd):=by rw[jR g1];rfl
 have i5:Eng.ld1 (.ptr Z (0+0)) u=some (.int .u8 is.kd):=x0;have O:=zLV (dy (m+2)) n is.k gW gl.row hs (by omega) (by omega);obtain⟨y,hy⟩: ∃y,y=Nd.whereN (leafOf w) is.k:=⟨_,rfl⟩;have c4:y<=w.length:=by rw[hy];exact JE _ _
 rw[<-hy]at O;have r4:Eng.ld1 (.ptr h 4) u=some lv:=by rw[jR gW];rfl
 have r2:Eng.ld1 (.ptr h 2) u=some (.ptr C 0):=by rw[jR gW];rfl
 have a4:lnSl lv=some (.int .i64 w.length):=gl.row.lnSl;obtain⟨d9,b2⟩:=QU (k:=is.k) hs;rw[<-hy]at d9 b2;simp only[spV]at b1 g1;have a5: ∀K:AV->AH->Rs,(jn (if((y:Nat):Int)< (w.length:Int)then bV (gY 2 lv (.int .i64 ((y:Nat):Int))) fun f9=>bV (fAd 0 f9) fun g0=>bV (Eng.ld1 g0 u) fun g2=>bV (J6 .eql g2 (S is.k)) fun c5=>some (.norm [c5],u)else some (.norm [jU],u)) fun vs A=>hd vs fun c5 vs=>bV (if((y:Nat):Int)< (w.length:Int)then some c5 else some (.bool false)) fun g5=>K g5 A)=K (.bool (lookP is.k w).isSome) u:=by
  intro K;by_cases f:y<w.length
  .have hI:((y:Nat):Int)< (w.length:Int):=by omega
   obtain⟨E,o,i1,i2,i3,i4⟩:=gl.row.at f;have g7:=i1 .i64 _ rfl;rw[if_pos hI,g7,bVs];have g8:Eng.ld1 (.ptr E (o+0)) u=some (S w[y].1):=i3;have hb:decide (w[y].1=is.k)=(lookP is.k w).isSome:=by
    cases la:lookP is.k w with
    | none=>have:=d9 la f;simp[this]
    | some v=>obtain⟨h',V⟩:=b2 v la;simp[V]
   simp only[fAd,kI,bVs,g8,zDx,QT,gH,if_pos hI,hb]
  .have hI: ¬((y:Nat):Int)< (w.length:Int):=by omega
   have hb:(lookP is.k w).isSome=false:=by
    cases la:lookP is.k w with
    | none=>rfl
    | some v=>obtain⟨h',_⟩:=b2 v la;exact absurd h' f
   rw[if_neg hI,QT,gH,if_neg hI,bVs,hb]
 have hM:(decide (((1:Nat):Int)<=(is.k.length:Int))&&decide ((is.k.length:Int)<=((40:Nat):Int)))=mayK is.k:=by
  rw[yL];simp only[Nd.mayK,zF,zQ];omega
 have a1:kO .rem (.int .u8 is.kd) (.int .u8 (2:Nat))=some (.int .u8 (is.kd % 2:Nat)):=by
  rw[UY _ _ _ (by omega)];congr 2
 have i6:y+1<=1000001:=by omega
 have c6:Q0 48 2 0 [.str 0 0, .str 0 0] []=some (.cells [] 48 2 false,fun E=> .slice E 0 0 0):=rfl;have e0:Q0 48 2 1 [.str 0 0, .str 0 0] [(0, .agg [S is.k,S is.v])]=some (.cells [S is.k,S is.v] 48 2 false,fun E=> .slice E 0 1 2):=rfl;have e1:uO [(0,1),(1,1)] [.str 0 0, .str 0 0] [(0,S is.k),(1,S is.v)]=some (.agg [S is.k,S is.v]):=rfl;have g9:aveq (.agg [S is.k,S is.v]) (.agg [S is.k,S is.v])=true:=by simp[aveq,Q6,S]
 have e3: ∀K:Rs,chk (some (.agg [S is.k,S is.v])) (.agg [S is.k,S is.v]) K=K:=fun K=>kY rfl g9
 have c7: ∀K:Rs,chk (some lv) lv K=K:=fun K=>kY rfl (kR gl.row)
 have c8:((y:Nat):Int)+((1:Nat):Int)=((y+1:Nat):Int):=by omega
 have a0:AdT (fun Ad=>W Ad\/Ad=h) A (fun Ad=>W Ad\/Ad=h) u:=⟨p1.stp,fun Ad f=> .inl f⟩;have b4: ∀ {M:Nat->Prop} {H':AH},AdT W u M H'->AdT (fun Ad=>W Ad\/Ad=h) u (fun Ad=>M Ad\/Ad=h) H':=fun a=>⟨a.1.mono fun Ad _ f=> .inl f,fun Ad f=>by
  rcases f with f | f
  .rcases a.2 Ad f with x | x
   .exact .inl (.inl x)
   .exact .inr x
  .exact .inl (.inr f)⟩
 have d4: ∀ {M:Nat->Prop} {z H3:AH},Stp (fun Ad=>Ad=h) z H3->AdT (fun Ad=>M Ad\/Ad=h) z (fun Ad=>M Ad\/Ad=h) H3:=fun is=>⟨is.mono fun Ad _ f=> .inr f,fun Ad f=> .inl f⟩
 have d5: ∀ {M:Nat->Prop} {z H3:AH},Prs z H3->AdT (fun Ad=>M Ad\/Ad=h) z (fun Ad=>M Ad\/Ad=h) H3:=fun is=>AdT.prs is
 rcases Nat.lt_or_ge (is.kd % 2) 1 with c9 | h7
 .have b5:is.kd % 2=0:=by omega
  have U:((is.kd % 2:Nat):Int)=((0:Nat):Int):=by omega
  obtain⟨z,E2,W2,T2,As,t2,j,c2⟩:=zLo d8 m n hm hn (k:=is.k) (v:=is.v) w1.tx.d (by omega) (by omega);obtain⟨txg,q2,t⟩:=t2.x;obtain⟨a8,a9,d0,a6,h0,Y,b0⟩:=w1.tree t j c2;obtain rfl:lv=d0:=by
   rw[gW]at a6;simp only[zC,AObj.cells.injEq,y9]at a6;exact a6.1.2.2.2.2.1
  have N2:=j.1.next
  have i7:=w1.tx.d.lt;have k3:=j.1.keep Z n1 (fun f=>by
   have:=root.tx.d.lt Z f;omega)
  have d1:Eng.ld1 (.ptr Z 2) z=some (S is.v):=by rw[jR (k3.trans g1)];rfl
  have e5:Eng.ld1 (.ptr Z 1) z=some (S is.k):=by rw[jR (k3.trans g1)];rfl
  by_cases hp:ZF is.k is.v=true
  .obtain⟨e7,i8⟩:mayK is.k=true/\is.v.length<=200:=by simpa[ZF]using hp
   have b9: ¬((200:Nat):Int)< (is.v.length:Int):=by omega
   rw[if_pos hp]at As;rw[if_pos hp]at t;obtain⟨H3,A9,b3,p3,g3,m3,n3⟩:=box j.1.ok (.cells [.str 0 0, .str 0 0] 48 1 false);obtain⟨H4,e4,g4,s4,n4⟩:=kE p3.ok g3 (l':=[S is.k,S is.v]) rfl rfl;have e8:stN 2 (.ptr A9 0) (.agg [S is.k,S is.v]) H3=some (jU,H4):=e4;have N3:=p3.next
   have L:Prs z H4:=p3.fresh s4 fun Ad hB=>by omega
   have h1:=b0.prs L;have d2:=zOM L j.1.ok Y;have a3:bQ is w=putP is.k is.v w:=by simp only[bQ,b5,if_true,hp]
   obtain⟨kk,b6,h2,d6⟩: ∃kk,(kk=if(lookP is.k w).isSome then y+1 else y)/\kk<=w.length/\putP is.k is.v w=w.take y++(is.k,is.v)::w.drop kk:=by
    refine⟨_,rfl, ?_⟩
    cases la:lookP is.k w with
    | some v0=>
     obtain⟨h',V⟩:=b2 v0 la;simp only[jM,if_true];exact⟨by omega,zJZ hs h' is.v V⟩
    | none=>
     simp only[Option.isSome_none,zM,qE];refine⟨c4, ?_⟩;rw[hy];exact JW hs (ZL la)
   obtain⟨G1,B1,r1,b7,h3,G2,B2,G3,i9,G4,d3,G5,q1,c0,q3,q4,q5,q6,q7,q8,q9,e9,P5,P6,P7,P8,F,b8,h4⟩:=zLK L.ok h1 c4 h2 (by omega) is.k is.v;obtain⟨H6,e6,g6,s6,n6⟩:=st4 F.ok (zOM F L.ok d2) (wG.row b8).isCell;rw[d6]at t;have w6:Wld E2 H6 h q B C I (J+200) N Q i s W2 txg q2 (w.take y++(is.k,is.v)::w.drop kk) T2:=by
    obtain⟨dr,es,c3,z1,z2,z3⟩:=t;exact Wld.note (lv:=d3) ⟨dr,es,c3,z1,z2.prs (L.trans F),z3⟩ (a8.prs j.1.ok (L.trans F)) a9 (zOM F L.ok d2) s6 g6 b8
   have a7: ∀ {G:AH},Prs H4 G->Eng.ld1 (.ptr h 4) G=some lv:=fun {G} f=>by rw[jR (zOM f L.ok d2)];rfl
   have r9: ∀ {G:AH},Prs H4 G->ldN 2 (.ptr A9 0) G=some (.agg [S is.k,S is.v]):=fun {G} f=>xN (zOM f L.ok g4) rfl
   have f1:=a7 P5;have f2:=a7 P6;have f3:=a7 P7;have f4:=a7 P8;have f5:=r9 P5;have f6:=r9 P7;have c1: ∀K:Rs,chk (some b7) b7 K=K:=fun K=>kY rfl q7
   refine⟨H6,E2,W2,T2,txg,q2, ?_,by rw[a3,d6];exact w6,((a0.trans (b4 j)).trans (d5 (L.trans F))).trans (d4 s6),c2⟩
   cases la:(lookP is.k w).isSome with
   | true=>
    rw[la,if_pos rfl]at b6;subst b6;simp(maxSteps:=999999)(disch:=omega) only[f16,eZ,b1,spV,x1,O,r4,a4,a5,hM,x0,a1,U,r2,x2,As,e7,la,d1,e5,b9,e1,b3,e8,c6,e0,q1,f1,c0,f5,q3,f2,c8,q4,q5,f6,e3,f3,c7,q6,c1,q8,f4,q9,e9,e6,zM4]
   | false=>
    rw[la]at b6;simp only[zM,qE]at b6;subst b6;simp(maxSteps:=999999)(disch:=omega) only[f16,eZ,b1,spV,x1,O,r4,a4,a5,hM,x0,a1,U,r2,x2,As,e7,la,d1,e5,b9,e1,b3,e8,c6,e0,q1,f1,c0,f5,q3,f2,c8,q4,q5,f6,e3,f3,c7,q6,c1,q8,f4,q9,e9,e6,zM4]
  .rw[if_neg hp]at As;rw[if_neg hp]at t;have a3:bQ is w=w:=by simp only[bQ,b5,if_true,hp,qE];rfl
   refine⟨z,E2,W2,T2,txg,q2, ?_,by rw[a3];exact⟨t,a8,a9,lv,Y,b0⟩,a0.trans (b4 j),c2⟩
   cases At:mayK is.k with
   | false=>
    simp(maxSteps:=999999)(disch:=omega) only[f16,eZ,b1,spV,x1,O,r4,a4,a5,hM,x0,a1,U,r2,x2,As,At]
   | true=>
    have b9:((200:Nat):Int)< (is.v.length:Int):=by
     simp only[ZF,At,Bool.true_and,zQ]at hp;omega
    simp(maxSteps:=999999)(disch:=omega) only[f16,eZ,b1,spV,x1,O,r4,a4,a5,hM,x0,a1,U,r2,x2,As,At,d1,b9]
 .have b5:is.kd % 2≠0:=by omega
  have U: ¬((is.kd % 2:Nat):Int)=((0:Nat):Int):=by omega
  obtain⟨z,E2,W2,T2,As,t2,j,c2⟩:=zMk d8 m n hm hn (k:=is.k) w1.tx.d (by omega) (by omega);obtain⟨txg,q2,t⟩:=t2.x;obtain⟨a8,a9,d0,a6,h0,Y,b0⟩:=w1.tree t j c2;obtain rfl:lv=d0:=by
   rw[gW]at a6;simp only[zC,AObj.cells.injEq,y9]at a6;exact a6.1.2.2.2.2.1
  cases At:mayK is.k with
  | false=>
   have hd:hH is.k w=1:=by rw[hH,At];rfl
   rw[hd]at As;rw[hd,if_neg (by omega)]at t;have a3:bQ is w=w:=by simp only[bQ,b5,qE,At,zM]
   refine⟨z,E2,W2,T2,txg,q2, ?_,by rw[a3];exact⟨t,a8,a9,lv,Y,b0⟩,a0.trans (b4 j),c2⟩;simp(maxSteps:=999999)(disch:=omega) only[f16,eZ,b1,spV,x1,O,r4,a4,a5,hM,x0,a1,U,r2,As,At]
  | true=>
   have c9:bQ is w=delP is.k w:=by simp only[bQ,b5,qE,At,if_true]
   cases la:(lookP is.k w).isSome with
   | false=>
    have hd:hH is.k w=5:=by rw[hH,At,la];rfl
    have h5:lookP is.k w=none:=by simpa using la
    rw[hd]at As;rw[hd,if_neg (by omega)]at t;have a3:bQ is w=w:=by rw[c9];exact UQ (ZL h5)
    refine⟨z,E2,W2,T2,txg,q2, ?_,by rw[a3];exact⟨t,a8,a9,lv,Y,b0⟩,a0.trans (b4 j),c2⟩;simp(maxSteps:=999999)(disch:=omega) only[f16,eZ,b1,spV,x1,O,r4,a4,a5,hM,x0,a1,U,r2,As,At,la]
   | true=>
    have hd:hH is.k w=0:=by rw[hH,At,la];rfl
    rw[hd]at As;rw[hd,if_pos rfl]at t;obtain⟨v0,h6⟩:=qK.1 la;obtain⟨h',he⟩:=b2 v0 h6;have d7:delP is.k w=w.take y++w.drop (y+1):=zKC hs h' he;obtain⟨G1,B1,r1,b7,h3,G3,d3,G5,q1,c0,q3,q4,q5,q6,q7,P5,P6,F,b8,h4⟩:=zMl j.1.ok b0 c4 (show y+1<=w.length by omega) (by omega);obtain⟨H6,e6,g6,s6,n6⟩:=st4 F.ok (zOM F j.1.ok Y) (wG.row b8).isCell;rw[d7]at t;have w6:Wld E2 H6 h q B C I (J+200) N Q i s W2 txg q2 (w.take y++w.drop (y+1)) T2:=by
     obtain⟨dr,es,c3,z1,z2,z3⟩:=t;exact Wld.note (lv:=d3) ⟨dr,es,c3,z1,z2.prs F,z3⟩ (a8.prs j.1.ok F) a9 (zOM F j.1.ok Y) s6 g6 b8
    have a7: ∀ {G:AH},Prs z G->Eng.ld1 (.ptr h 4) G=some lv:=fun {G} f=>by rw[jR (zOM f j.1.ok Y)];rfl
    have f1:=a7 P5;have f3:=a7 P6;have c1: ∀K:Rs,chk (some b7) b7 K=K:=fun K=>kY rfl q6
    refine⟨H6,E2,W2,T2,txg,q2, ?_,by rw[c9,d7];exact w6,((a0.trans (b4 j)).trans (d5 F)).trans (d4 s6),c2⟩;simp(maxSteps:=999999)(disch:=omega) only[f16,eZ,b1,spV,x1,O,r4,a4,a5,hM,x0,a1,U,r2,As,At,la,c6,q1,f1,c0,c8,q3,q4,f3,c7,q5,c1,q7,e6]
end Go.Eng.Sh
end
section
namespace Go.Bk
end Go.Bk
namespace Go.Eng.Sh
open Go.Nd (Ptr sumL leafOf Kvs Srt mayK putP delP lookP)
open Go.Bt Go.Bk
def OldR (E:Ev)(is:Nat->Nat)(p:Ptr)(kv:Kvs):Prop:= ∃T,v5 { E with dl:=[] } [] p kv T/\ ∀r∈T,r.at_≠1/\is r.at_.toNat≠0
theorem v5.keep {E:Ev}(h:v5 E [] v w L)(hb: ∀r∈L,blkAt r.at_.toNat P=blkAt r.at_.toNat E.ws):v5 { E with ws:=P,dl:=H} [] v w L:=by
 rcases h with⟨a,b,c⟩ | ⟨h,f,t,S,m,o,q,u,h5,rfl⟩
 .exact .inl ⟨a,b,c⟩
 .have key: ∀r∈v::S,∀f,Qf E [] [] r=some f->Qf { E with ws:=P,dl:=H} [] [] r=some f:=fun r hr f i=>by
   have:=zHT (ws':=P) i fun _=>hb r hr
   obtain⟨s,rfl,h⟩ | ⟨hp,ws'⟩:=vT this
   .rcases h with h | ⟨_,h⟩<;>simp[jZ]at h
   .rw[Y5 hp];exact zOI.2 (zOI.1 ws')
  exact .inr ⟨h,f,t,S,key v (zJ ..) f m,o.mono fun r hr f i=>key r (zE _ hr) f i,q,u,h5,rfl⟩
theorem OldR.keep {E:Ev}{is i:Nat->Nat}{ws':Ws}{j:List Ptr}{p:Ptr}{kv:Kvs}(h:OldR E is p kv)(hb: ∀a,is a≠0->blkAt a ws'=blkAt a E.ws)(hi: ∀a,is a≠0->i a≠0):OldR { E with ws:=ws',dl:=j} i p kv:=by
 obtain⟨T,m,f⟩:=h;exact⟨T,m.keep (E:= { E with dl:=[] }) fun r hr=>hb _ (f r hr).2,fun r hr=>⟨(f r hr).1,hi _ (f r hr).2⟩⟩
theorem zJ5(m:uV t F l A h q B k v e w H):f24 D n [.ptr h 0] A=some (.int .i64 e.length,A):=by
 obtain⟨p,es,o,_,a,_⟩:=m;have E:=QM D n a;have i:Eng.ld1 (.ptr h 5) A=some (.map q):=by rw[jR a.gT];rfl
 have j:ZM (.map q) A=some (.int .i64 e.length):=by
  simp only[ZM,a.gM,kI,a.pq.len];rfl
 simp(maxSteps:=999999)(disch:=omega) only[f24,eZ,E,i,j]
theorem zBK(M:uV t F l A h q B k v e w H): ∃H',f19 D n [.ptr h 0] A=some (.agg (jX v),H')/\Prs A H':=by
 obtain⟨L,es,C,_,j,_⟩:=M;obtain⟨m,o,b1,f,u,G,I⟩:=box j.ok (.cells [.int .i64 (0:Nat), .int .i64 (0:Nat), .int .u64 (0:Nat)] 42 1 false);have i:=j.prs f;have p:=QM D n i;have x:ldN 3 (.ptr h 2) m=some (.agg (jX v)):=QQ i.gT (by simp[wQ]);obtain⟨E,W,y,z,J⟩:=kE f.ok u (l':=jX v) rfl rfl;have s:stN 3 (.ptr o 0) (.agg (jX v)) m=some (jU,E):=W;have r:ldN 3 (.ptr o 0) E=some (.agg (jX v)):=xN y rfl;refine⟨E, ?_,f.fresh z fun a K=>by omega⟩;simp(maxSteps:=999999)(disch:=omega) only[f19,eZ,b1,p,x,s,r]
theorem st3 (i:A.ok){lv x:AV}(g:A.h.get h=some (.cells [t,F,W,c,lv] 39 1 false))(j:isCell x=true): ∃H',stN 1 (.ptr h 3) x A=some (jU,H')/\H'.h.get h=some (.cells [t,F,W,x,lv] 39 1 false)/\Stp (fun B=>B=h) A H'/\H'.next=A.next:=by
 obtain⟨m,e,p,s,n⟩:=xI i g (o:=3) (x:=x) j (by simp);exact⟨m,e,p,s,n⟩
def SpR (H:AH)(v:AV)(l:List Sp):Prop:=Rw 4 H v l.length (l.flatMap spV)
theorem zF7 (s:Sp):(spV s).length=4:=rfl
theorem zAJ: ∀(l:List Sp) (i:Nat) (h:i<l.length),((l.flatMap spV).drop (i*4)).take 4=spV l[i]
 | p::l,0,_=>by rw[Nat.zero_mul,yD,qL,jD (zF7 p)];rfl
 | p::l,i+1,h=>by
  rw[qL,show(i+1)*4=4+i*4 by omega,<-List.drop_drop,jA (zF7 p)];exact zAJ l i (by simpa using h)
theorem SpR.at {H:AH}{v:AV}{l:List Sp}(h:SpR H v l){i:Nat}(hi:i<l.length): ∃A o,(∀κ (z:Int),z=(i:Int)->gY 4 v (.int κ z)=some (.ptr A o))/\ldN 4 (.ptr A o) H=some (.agg (spV l[i]))/\Eng.ld1 (.ptr A (o+1)) H=some (S l[i].k)/\Eng.ld1 (.ptr A (o+2)) H=some (S l[i].v)/\Eng.ld1 (.ptr A (o+3)) H=some (.int .i64 l[i].nr):=by
 obtain⟨A,o,c,e,sz,g,m,a,s,p,h5⟩:=Rw.at h hi;rw[zAJ l i hi]at h5;have f: ∀j,j<4->c[o+j]? =(spV l[i])[j]? :=fun j q=>by
  have:=congrArg (fun x=>x[j]?) h5;simp only[jJ q,jL]at this;exact this
 exact⟨A,o,m,by rw[QQ a p,h5],wO a (f 1 (by omega)),wO a (f 2 (by omega)),wO a (f 3 (by omega))⟩
theorem SpR.lnSl {H:AH}{v:AV}{l:List Sp}(h:SpR H v l):Eng.lnSl v=some (.int .i64 l.length):=Rw.lnSl h
theorem zIL(N:30000<=n){l:List Sp}(h:SpR A t l): ∃b:Bool,f14 D n [t] A=some (.bool b,A)/\(b=false->l.length<=150):=by
 have f:=h.lnSl;have C: ∀d i c a,d+c≥20000->d<a->c<=22001->i<=c->(∃b:Bool,kL a (YN D n) [t, .int .i64 ((c:Nat):Int), .int .i64 ((i:Nat):Int)] A=some (.ret (.bool true),A))\/ ∃c':Nat,c'<=22001/\kL a (YN D n) [t, .int .i64 ((c:Nat):Int), .int .i64 ((i:Nat):Int)] A=some (.exit 0 [t, .int .i64 c'],A):=by
  intro d
  induction d with
  | zero=>
   intro i c a hd z p hi;obtain⟨a,rfl⟩: ∃k,a=k+1:=⟨a - 1,by omega⟩;refine .inr ⟨c,p,kD ?_⟩;have c1: ¬((c:Nat):Int)< ((20000:Nat):Int):=by omega
   by_cases q:((i:Nat):Int)< (l.length:Int)
   .simp(maxSteps:=999999)(disch:=omega) only[YN,eZ,f,q,c1]
   .simp(maxSteps:=999999)(disch:=omega) only[YN,eZ,f,q,c1]
  | succ d ih=>
   intro i c a hd z p hi;obtain⟨a,rfl⟩: ∃k,a=k+1:=⟨a - 1,by omega⟩;by_cases q:i<l.length
   .have j:((i:Nat):Int)< (l.length:Int):=by omega
    by_cases L:c<20000
    .have c1:((c:Nat):Int)< ((20000:Nat):Int):=by omega
     obtain⟨H,o,u,O,x,y,Q⟩:=h.at q;by_cases S:1000< (l[i].k).length
     .have m:((1000:Nat):Int)< (((l[i].k).length:Nat):Int):=by omega
      refine .inl ⟨true,ZJ ?_⟩;simp(maxSteps:=999999)(disch:=omega) only[YN,eZ,f,j,c1,u,x,m]
     .have m: ¬((1000:Nat):Int)< (((l[i].k).length:Nat):Int):=by omega
      by_cases T:1000< (l[i].v).length
      .have s:((1000:Nat):Int)< (((l[i].v).length:Nat):Int):=by omega
       refine .inl ⟨true,ZJ ?_⟩;simp(maxSteps:=999999)(disch:=omega) only[YN,eZ,f,j,c1,u,x,m,y,s]
      .have s: ¬((1000:Nat):Int)< (((l[i].v).length:Nat):Int):=by omega
       have F:((c:Nat):Int)+((1:Nat):Int)=((c+1:Nat):Int):=by omega
       have G:((c+1:Nat):Int)+(((l[i].k).length:Nat):Int)=((c+1+(l[i].k).length:Nat):Int):=by omega
       have I:((c+1+(l[i].k).length:Nat):Int)+(((l[i].v).length:Nat):Int)=((c+1+(l[i].k).length+(l[i].v).length:Nat):Int):=by omega
       have J:((i:Nat):Int)+((1:Nat):Int)=((i+1:Nat):Int):=by omega
       have K:YN D n [t, .int .i64 ((c:Nat):Int), .int .i64 ((i:Nat):Int)] A=some (.norm [t, .int .i64 (c+1+(l[i].k).length+(l[i].v).length:Nat), .int .i64 (i+1:Nat)],A):=by
        simp(maxSteps:=999999)(disch:=omega) only[YN,eZ,f,j,c1,u,x,m,y,s,F,G,I,J]
       rw[wB K];exact ih (i+1) _ a (by omega) (by omega) (by omega) (by omega)
    .have c1: ¬((c:Nat):Int)< ((20000:Nat):Int):=by omega
     refine .inr ⟨c,p,kD ?_⟩;simp(maxSteps:=999999)(disch:=omega) only[YN,eZ,f,j,c1]
   .have j: ¬((i:Nat):Int)< (l.length:Int):=by omega
    refine .inr ⟨c,p,kD ?_⟩;simp(maxSteps:=999999)(disch:=omega) only[YN,eZ,f,j]
 rcases C 20000 0 0 n (by omega) (by omega) (by omega) (by omega)with⟨_,e⟩ | ⟨c',M,e⟩
 .refine⟨true, ?_,fun h=>by cases h⟩;simp(maxSteps:=999999)(disch:=omega) only[f14,eZ,e]
 .by_cases U:20000<=c'
  .have v:((20000:Nat):Int)<=(c':Int):=by omega
   refine⟨true, ?_,fun h=>by cases h⟩;simp(maxSteps:=999999)(disch:=omega) only[f14,eZ,e,zM6,v]
  .have v: ¬((20000:Nat):Int)<=(c':Int):=by omega
   refine⟨decide (((150:Nat):Int)< (l.length:Int)), ?_,fun h=>by
    have:=of_decide_eq_false h;omega⟩
   simp(maxSteps:=999999)(disch:=omega) only[f14,eZ,e,zM6,v,f]
open Go.Proofs
open Go.Nd (Str)
theorem zHd {Q:Ptr->Option Nd.Node}{h:Nat}(f: ∀ {lo hi:Bd} {j:Nd.Node} {t:Bt.Tr h} {S:List Ptr},wL Q h j t S->WF h lo hi t->3*(S.length+1)+1<=4*(con h t).length):
  ∀ {i:List Ptr} {ts:List (Bt.Tr h)} {S:List Ptr} {ks:List Str} {lo hi:Bd},vG Q (wL Q h) i ts S->KB (WF h) lo ks ts hi->3*S.length+ts.length<=4*(ts.flatMap (con h)).length
 | [],[],_,ks,_,_,_,hk=>by cases ks<;>exact hk.elim
 | p::i,t::ts,_,ks,lo,hi,⟨j,S1,S2,a,b,c,e⟩,hk=>by
  subst e;simp only[qL,zV,zY]
  cases ks with
  | nil=>
   cases ts with
   | nil=>
    have o:=f b hk
    cases i with
    | nil=>
     have m:S2=[]:=c;subst m;simp only[List.flatMap_nil,yS];omega
    | cons _ _=>exact c.elim
   | cons _ _=>exact hk.elim
  | cons k ks=>
   have o:=f b hk.1;have m:=zHd f c hk.2;omega
 | [],_::_,_,_,_,_,h,_=>h.elim
 | _::_,[],_,_,_,_,h,_=>h.elim
theorem zKF {Q:Ptr->Option Nd.Node} : ∀(h:Nat) {lo hi:Bd} {f:Nd.Node} {t:Bt.Tr h} {S:List Ptr},wL Q h f t S->WF h lo hi t->3*(S.length+1)+1<=4*(con h t).length
 | 0,_,_,_,t,_,⟨_,hS⟩,hw=>by
  subst hS;have:(t:Kvs).length≠0:=fun e=>hw.2.1 (zR e)
  show 3*(0+1)+1<=4*(t:Kvs).length;omega
 | h+1,_,_,_,t,_,hr,hw=>by
  have i:=zHd (fun {_ _ _ _ _} a b=>zKF h a b) hr.2.2.2 hw.1.2.2;have j:=ZI hw;have m:=hw.1.2.2.len;show _<=4*(t.2.flatMap (con h)).length;omega
theorem zJc  : ∀(h:Nat) {f:Nd.Node} {t:Bt.Tr h} {S:List Ptr},wL a h f t S->WR h t->3*(S.length+1)<=4*(con h t).length+1
 | 0,_,t,_,⟨_,hS⟩,hw=>by
  subst hS;have:(t:Kvs).length≠0:=fun e=>hw.2.1 (zR e)
  show 3*(0+1)<=4*(t:Kvs).length+1;omega
 | h+1,_,t,_,hr,hw=>by
  have i:=zHd (fun {_ _ _ _ _} Q b=>zKF h Q b) hr.2.2.2 hw.1.2.2;have j:t.1.length≠0:=fun e=>hw.2.1 (zR e)
  have m:=hw.1.2.2.len;show _<=4*(t.2.flatMap (con h)).length+1;omega
theorem v5.cnt (h:v5 l e v w H):3*H.length<=4*w.length+1:=by
 rcases h with⟨_,rfl,rfl⟩ | ⟨h,i,t,S,_,hr,a,_,f,rfl⟩
 .simp
 .have:=zJc h hr a;rw[f]at this;simpa using this
end Go.Eng.Sh
end
section
namespace Go.Bk
def zIS (is:Nat->Nat):List Nat->Nat->Nat
 | []=>is
 | i::l=>zIS (ZD is i (if is i=2 then 0 else 3)) l
theorem UJ: ∀ {l:List Nat} {is:Nat->Nat} {j:Nat},j∉l->zIS is l j=is j
 | [],_,_,_=>rfl
 | i::l,is,j,h=>by
  simp only[zO,not_or]at h;rw[zIS,UJ h.2,vL h.1]
theorem zGf: ∀ {l:List Nat} {is:Nat->Nat} {j:Nat},l.Nodup->j∈l->zIS is l j=(if is j=2 then 0 else 3)
 | i::l,is,j,hn,h=>by
  obtain⟨a,f⟩:=List.nodup_cons.1 hn;rw[zIS];by_cases e:j=i
  .subst e;rw[UJ a,uD]
  .have m:j∈l:=by simpa[e]using h
   rw[zGf f m,vL e]
 | [],_,_,_,h=>by simp at h
end Go.Bk
namespace Go.Eng.Sh
open Go.Nd (Ptr sumL leafOf Kvs Srt mayK putP delP lookP)
open Go.Bt Go.Bk
theorem zIk(H:Spc A h q B i)(x:A.ok)(I:2<=C)(hi:C<q)(f:i C=1\/i C=2):
  ∃H',f70 D n [.ptr h 0, .int .i64 C] A=some (.int .i64 (0:Nat),H')/\Spc H' h q B (ZD i C (if i C=2 then 0 else 3))/\Stp (fun v=>v=h) A H'/\H'.next=A.next:=by
 obtain⟨c,g,hl,z,c1,is,J,K,G,L⟩:=id H;have F:Eng.ld1 (.ptr h 0) A=some (.int .i64 q):=wO g z;have y:vU 8192 1 (.ptr h 2) (.int .i64 C)=some (.ptr h (2+C)):=xR 8192 h 2 .i64 C rfl (by omega);have j:Eng.ld1 (.ptr h (2+C)) A=some (.int .u8 (i C:Nat)):=wO g (is C (by omega));have t1: ¬(C:Int)< ((2:Nat):Int):=by omega
 have t2: ¬(q:Int)<=(C:Int):=by omega
 have t:f116 D n [.ptr h 0, .int .i64 C] A=some (.int .i64 (0:Nat),A):=by
  simp(maxSteps:=999999)(disch:=omega) only[f116,eZ,cq,F,t1,t2]
 have u: ¬(((0:Nat):Int)≠((0:Nat):Int)):=by omega
 have t12: ¬((1:Nat):Int)=((2:Nat):Int):=by omega
 rcases f with f | f
 .obtain⟨o,p,m,nb,s⟩:=QF D n H x hi (a:=1) (b:=3) f (by omega) (by omega);refine⟨o, ?_,by rw[f];exact m,nb,s⟩;rw[f]at j;simp(maxSteps:=999999)(disch:=omega) only[f70,eZ,t,y,j,p,u,t12,zLZ]
 .obtain⟨o,p,m,nb,s⟩:=QF D n H x hi (a:=2) (b:=0) f (by omega) (by omega);refine⟨o, ?_,by rw[f];exact m,nb,s⟩;rw[f]at j;simp(maxSteps:=999999)(disch:=omega) only[f70,eZ,t,y,j,p,u,t12,zLZ]
def blk (r:Ptr):Nat:=r.at_.toNat
theorem zD5: ∀(l:List Ptr) (i:Nat) (h:i<l.length),((l.flatMap jX).drop (i*3)).take 3=jX l[i]
 | p::l,0,_=>by rw[Nat.zero_mul,yD,qL];rfl
 | p::l,i+1,h=>by
  rw[qL,show(i+1)*3=3+i*3 by omega,<-List.drop_drop,show(jX p++l.flatMap jX).drop 3=l.flatMap jX from rfl];exact zD5 l i (by simpa using h)
theorem zGe{lv:AV} :
  ∀(d i f:Nat) (p:AH) (is:Nat->Nat),i+d=H.length->d<f->H.length<=1000000000->p.ok->Spc p q B C is->p.h.get h=some (.cells [F, .ptr q 0,W,c,lv] 39 1 false)->Rw 3 p t H.length (H.flatMap jX)->(∀j,Blk t j->j≠q)->
   ((H.drop i).map blk).Nodup->(∀r∈H.drop i,2<=r.at_/\blk r<B/\is (blk r)=1)->
   ∃H',kL f (zGs D n) [.ptr h 0, .bool true,t, .int .i64 (0:Nat), .int .i64 i] p=some (.exit 0 [.ptr h 0, .int .i64 (0:Nat)],H')/\Spc H' q B C (zIS is ((H.drop i).map blk))/\Stp (fun j=>j=q) p H'/\H'.next=p.next:=by
 intro d
 induction d with
 | zero=>
  intro i f p is hi V M u v m s nb dl Q;obtain⟨f,rfl⟩: ∃k,f=k+1:=⟨f - 1,by omega⟩;have J: ¬(i:Int)< (H.length:Int):=by omega
  have G:lnSl t=some (.int .i64 H.length):=Rw.lnSl s;refine⟨p,kD ?_, ?_,zOJ u,rfl⟩
  .simp(maxSteps:=999999)(disch:=omega) only[zGs,eZ,G,J]
  .rw[qS (by omega)];exact v
 | succ d ih=>
  intro i f p is hi V M u v m s nb dl Q;obtain⟨f,rfl⟩: ∃k,f=k+1:=⟨f - 1,by omega⟩;have I:i<H.length:=by omega
  have J:(i:Int)< (H.length:Int):=by omega
  have G:lnSl t=some (.int .i64 H.length):=Rw.lnSl s;have z:H.drop i=H[i]::H.drop (i+1):=qN I;rw[z,yK]at dl;rw[z]at Q;obtain⟨a,Y⟩:=List.nodup_cons.1 dl;obtain⟨r1,r2,S⟩:=Q _ (zJ ..);obtain⟨A,o,cc,e,sz,g,i1,g2,i3,i4,T⟩:=Rw.at s I;rw[zD5 H i I]at T;have Z:cc[o]? =some (.int .i64 H[i].at_):=by
   have:=congrArg (fun x=>x[0]?) T;simp only[jJ (by omega:0<3),jL,Nat.add_zero]at this;exact this
  have a0:Eng.ld1 (.ptr A (o+0)) p=some (.int .i64 (blk H[i]:Nat)):=by
   have K:((blk H[i]:Nat):Int)=H[i].at_:=by unfold blk;omega
   rw[K];exact wO g2 Z
  have rW:Eng.ld1 (.ptr h 1) p=some (.ptr q 0):=by rw[jR m];rfl
  have h2:2<=blk H[i]:=by unfold blk;omega
  obtain⟨L,K,N,y,n1⟩:=zIk D n v u h2 r2 (.inl S);have O:(if is (blk H[i])=2 then 0 else 3)=3:=by rw[S];rfl
  rw[O]at N;have a1:h≠q:=fun e=>by
   obtain⟨c8,gS⟩:=v.bk;rw[e,gS]at m;simp at m
  have a2:L.h.get h=_:=(y.keep _ (u.lt m) a1).trans m;have U:Rw 3 L t H.length (H.flatMap jX):=Rw.stp s y nb;obtain⟨H2,e2,a3,s2,n2⟩:=ih (i+1) f L _ (by omega) (by omega) M y.ok N a2 U nb Y fun r hr=>by
   obtain⟨q1,q2,q3⟩:=Q r (zE _ hr);refine⟨q1,q2, ?_⟩;rw[vL fun e=>a (qM.2 ⟨r,hr,e⟩)];exact q3
  have hi1:(i:Int)+((1:Nat):Int)=((i+1:Nat):Int):=by omega
  have a4: ¬(((0:Nat):Int)≠((0:Nat):Int)):=by omega
  refine⟨H2,(wB ?_).trans e2, ?_,y.trans s2,by omega⟩
  .simp(maxSteps:=999999)(disch:=omega) only[zGs,eZ,G,J,rW,i1,a0,K,a4,hi1]
  .rw[z,yK,zIS,O];exact a3
def zDF (is:Nat->Nat)(dl:List Nat)(nb:Nat):Nat->Nat:=stlS (zIS is dl) nb
theorem zOt {dl:List Nat}(hd:dl.Nodup)(f: ∀q∈dl,2<=q/\q<h/\i q=1)(j: ∀q,q<h->i q<3)(m: ∀q,q<h->i q=2->2<=q)(hi:q<h):zDF i dl h q=if q∈dl then 0 else if i q=2 then 1 else i q:=by
 have o:zIS i dl q=if q∈dl then 3 else i q:=by
  by_cases is:q∈dl
  .rw[if_pos is,zGf hd is,(f q is).2.2];rfl
  .rw[if_neg is,UJ is]
 have nb:=j q hi;have p: ¬i q=3:=by omega
 simp only[zDF,stlS,zBA,o];by_cases is:q∈dl
 .obtain⟨q1,q2,q3⟩:=f q is;simp[is,q1,hi]
 .by_cases a:i q=2
  .simp[is,a,m q hi a,hi]
  .simp[is,a,p]
theorem K_eq {m:Nd.Node}(h:l.K v=some E)(q:l.K r=some m)(e:blk v=blk r):v=r:=by
 obtain⟨a,b,k,s,rfl,G,I,J,t,h5,u,_⟩:=zOI.1 h;obtain⟨f,L,k',M,rfl,y,z,C,o,F,i,_⟩:=zOI.1 q;have x:a=f:=by simpa[blk,bN]using e
 subst x;rw[u]at i;have j:=yG i;rw[j,zDY t o j]
theorem zJN (h:l.K v=some E):2<=v.at_/\blk v<l.nb:=by
 obtain⟨a,b,k,s,rfl,i,j,_⟩:=zOI.1 h;simp only[blk,bN];omega
theorem zAt {α β:Type}{f:α->β} : ∀ {l:List α},l.Nodup->(∀a∈l,∀b∈l,f a=f b->a=b)->(l.map f).Nodup
 | [],_,_=>by simp
 | a::l,h,hf=>by
  obtain⟨i,j⟩:=List.nodup_cons.1 h;rw[yK,List.nodup_cons];refine⟨fun hm=> ?_,zAt j fun x m y o=>hf x (zE _ m) y (zE _ o)⟩;obtain⟨b,hb,e⟩:=qM.1 hm;exact i (hf b (zE _ hb) a (zJ ..) e▸hb)
theorem v5.known (h:v5 l e v w H): ∀r∈H,∃a,Qf l e [] r=some a:=by
 rcases h with⟨_,_,rfl⟩ | ⟨h,a,t,S,k1,k2,_,_,_,rfl⟩
 .simp
 .intro r hr;rcases zO.1 hr with rfl | hr
  .exact⟨a,k1⟩
  .exact wL.here k2 r hr
theorem v5.nodup (h:v5 l e v w H):H.Nodup:=by
 rcases h with⟨_,_,rfl⟩ | ⟨h,a,t,S,_,_,_,k4,_,rfl⟩
 .simp
 .exact k4
theorem zGV (h: ∀r∈H,r.at_≠1):dsk H=H:=List.filter_eq_self.2 fun p hp=>by simpa using h p hp
theorem cp_le (T:List Ptr):cp T<=T.length:=List.length_filter_le ..
theorem zDr {f:Nat->Nat}{n:Nat} : ∀ {l:List Nat},l.Nodup->(∀i∈l,i<n/\f i≠0)->cnt (fun i=>if i∈l then 0 else f i) 0 n=cnt f 0 n+l.length
 | [],_,_=>by simp
 | a::l,hn,h=>by
  obtain⟨j,m⟩:=List.nodup_cons.1 hn;have o:=zDr m fun i hi=>h i (zE _ hi)
  have e:(fun i=>if i∈a::l then 0 else f i)=ZD (fun i=>if i∈l then 0 else f i) a 0:=by
   funext i;simp only[ZD,zO];by_cases e:i=a<;>simp[e]
  obtain⟨q1,q2⟩:=h a (zJ ..);rw[e,((KY (is:=fun i=>if i∈l then 0 else f i) (i:=a) (a:=f a) (b:=0) (by simp[j]) q2 (n:=n)).1 q1).1,o,zY]
  omega
structure Sty (E:Ev)(is:Nat->Nat)(T:List Ptr):Prop where
 kn: ∀r∈dsk T++E.dl,∃nd,E.K r=some nd
 nd:(dsk T++E.dl).Nodup
 i1: ∀i,i<E.nb->is i<=1
 us: ∀r∈dsk T++E.dl,is (blk r)=1
 ct:cnt is 0 E.nb+(dsk T++E.dl).length=510
 few:(dsk T++E.dl).length<=200
theorem Sty.chd {a:Ev}(s:Sty l i H)(c:Chd l a H L):Sty a i L:=by
 refine⟨fun r hr=> ?_,c.pm.nodup_iff.2 s.nd,by rw[c.nb];exact s.i1,fun r hr=>s.us r (c.pm.mem_iff.1 hr),by rw[c.nb,c.pm.length_eq];exact s.ct,by rw[c.pm.length_eq];exact s.few⟩;obtain⟨E,h⟩:=s.kn r (c.pm.mem_iff.1 hr);refine⟨E,zOI.2 ?_⟩;have:=zOI.1 h;unfold OnD at this⊢;rw[c.nb,c.ws];exact this
theorem zHc: ∀n,cnt zBT 0 (n+2)=n
 | 0=>rfl
 | n+1=>by
  have e:zBT (n+2)=0:=by simp[zBT]
  show cnt zBT 0 (n+2)+(if zBT (n+2)=0 then 1 else 0)=n+1
  rw[zHc n,e];rfl
theorem Sty.new:Sty ⟨512,[],[],fun _=>False,False⟩ zBT []:=by
 refine⟨by simp[dsk],by simp[dsk],fun i _=>by simp only[zBT];split<;>omega,by simp[dsk], ?_,by simp[dsk]⟩;show cnt zBT 0 (510+2)+0=510;rw[zHc]
theorem Sty.dl {E:Ev}{is:Nat->Nat}{T:List Ptr}(s:Sty E is T):(E.dl.map blk).Nodup/\ ∀r∈E.dl,2<=r.at_/\blk r<E.nb/\is (blk r)=1:=by
 refine⟨zAt (List.nodup_append.1 s.nd).2.1 fun a h b hb e=> ?_,fun r hr=> ?_⟩
 .obtain⟨_,f⟩:=s.kn a (qY _ h);obtain⟨_,i⟩:=s.kn b (qY _ hb);exact K_eq f i e
 .obtain⟨_,f⟩:=s.kn r (qY _ hr);exact⟨(zJN f).1,(zJN f).2,s.us r (qY _ hr)⟩
theorem WOut.keep1 {ws':Ws}(o:WOut h P ws' i g H L)(nb:i q=1):g q=1:=by
 rcases o.up q with e | ⟨e,_⟩<;>omega
theorem Sty.aft (s:Sty l i H)(o:WOut l.nb l.ws P i g H L)(q:i 0≠0/\i 1≠0)(hi:h<l.nb):zDF g (l.dl.map blk) l.nb h=if h∈l.dl.map blk then 0 else if g h=2 then 1 else g h:=by
 obtain⟨m,p⟩:=s.dl;refine zOt m (fun j a=> ?_) (fun j a=> ?_) (fun j a t=> ?_) hi
 .obtain⟨r,hr,rfl⟩:=qM.1 a;obtain⟨q1,q2,q3⟩:=p r hr;exact⟨by unfold blk;omega,q2,o.keep1 q3⟩
 .have:=s.i1 j a;rcases o.up j with e | ⟨e,_⟩<;>omega
 .have:=s.i1 j a
  match j,a with
  | 0,_=>rcases o.up 0 with e | ⟨e,_⟩<;>omega
  | 1,_=>rcases o.up 1 with e | ⟨e,_⟩<;>omega
  | j+2,_=>omega
theorem Sty.out (s:Sty l i H)(o:WOut l.nb l.ws P i g H L)(j:i 0≠0/\i 1≠0)(hr:v5 { l with ws:=P,dl:=[] } [] v w L)(Z:w.length<=150):Sty { l with ws:=P,dl:=[] } (zDF g (l.dl.map blk) l.nb) L/\zDF g (l.dl.map blk) l.nb 0≠0/\zDF g (l.dl.map blk) l.nb 1≠0:=by
 obtain⟨O,ws'⟩:=s.dl;have G:=o.used fun r t q=>by have:=s.us r (qX _ (UO.2 ⟨t,q⟩));unfold blk at this;omega
 have hd:dsk L=L:=zGV fun r h=>(G r h).1
 have I: ∀r∈L,∃x,Ev.K { l with ws:=P,dl:=[] } r=some x:=fun r h=>by
  obtain⟨x,t⟩:=hr.known r h;obtain⟨p,rfl,_⟩ | ⟨_,q⟩:=vT t
  .exact absurd rfl (G _ h).1
  .exact⟨x,q⟩
 have F: ∀E,E∈l.dl.map blk->2<=E:=fun E h=>by
  obtain⟨r,hr,rfl⟩:=qM.1 h;have:=(ws' r hr).1;unfold blk;omega
 have hb:l.nb≥2:=by
  have:=zB5 i 0 l.nb;have:=s.ct;have:=s.few;omega
 obtain⟨Y,J,_,a0,M⟩:=o.pm;refine⟨⟨?_, ?_,fun E hi=> ?_,fun r y=> ?_, ?_, ?_⟩, ?_, ?_⟩
 .rw[qW,hd];exact I
 .rw[qW,hd];exact hr.nodup
 .rw[s.aft o j hi];have:=s.i1 E hi;split
  .omega
  .split
   .omega
   .rcases o.up E with e | ⟨_,e⟩<;>omega
 .rw[qW,hd]at y;obtain⟨x,Q⟩:=I r y;rw[s.aft o j (zJN Q).2];rcases qB.1 (J.mem_iff.1 y)with h | h
  .have t:=s.us r (qX _ h);have q:=o.keep1 t;obtain⟨_,k1⟩:=s.kn r (qX _ h);have z: ¬blk r∈l.dl.map blk:=fun hm=>by
    obtain⟨C,u,e⟩:=qM.1 hm;obtain⟨_,k2⟩:=s.kn C (qY _ u);obtain rfl:=K_eq k2 k1 e;exact(List.nodup_append.1 s.nd).2.2 _ h _ u rfl
   rw[if_neg z,if_neg (by omega),q]
  .obtain⟨_,q,S⟩:=M r h;have a1:i (blk r)=0:=q;have a2:g (blk r)≠0:=S;have z: ¬blk r∈l.dl.map blk:=fun hm=>by
    obtain⟨C,u,e⟩:=qM.1 hm;have:=(ws' C u).2.2;rw[e]at this;omega
   have N:g (blk r)=2:=by rcases o.up (blk r)with e | ⟨_,e⟩<;>omega
   rw[if_neg z,if_pos N]
 .have U:cnt (zDF g (l.dl.map blk) l.nb) 0 l.nb=cnt g 0 l.nb+(l.dl.map blk).length:=by
   rw[<-zDr (f:=g) O fun E hi=> ?_]
   .refine zHe fun E hi=> ?_
    rw[s.aft o j hi];by_cases h:E∈l.dl.map blk
    .simp only[if_pos h]
    .simp only[if_neg h];split<;>omega
   .obtain⟨r,hr,rfl⟩:=qM.1 hi;have:=o.keep1 (ws' r hr).2.2;exact⟨(ws' r hr).2.1,by omega⟩
  have e2:=o.ct;have V:=s.ct;have W:=J.length_eq;rw[zV]at V W;show cnt (zDF g (l.dl.map blk) l.nb) 0 l.nb+(dsk L++[]).length=510;rw[qW,hd,U,jH];omega
 .rw[qW,hd];have:=hr.cnt;omega
 .rw[s.aft o j (by omega),if_neg fun h=>by have:=F _ h;omega];have:=o.nz j.1;split<;>omega
 .rw[s.aft o j (by omega),if_neg fun h=>by have:=F _ h;omega];have:=o.nz j.2;split<;>omega
theorem zDO (m n:Nat)(hm:400000000<=m)(hn:200000000<=n){txg:Nat}(kv:Wld l A h q B C I J txg N i k s v e w H)(V:Sty l i H)(ht:txg<=1000)(f7:l.ws.length<=200*txg)(a4:w.length<=150):
  ∃H' ws' p la' z W L M' la,f17 (dy (m+2)) n [.ptr h 0, .bool true] A=some (.bool true,H')/\Wld { l with ws:=ws',dl:=[] } H' h q B C M' J (txg+1) la' p z la W [] w L/\Sty { l with ws:=ws',dl:=[] } p L/\ws'.length<=200*(txg+1)/\AdT (fun Q=>(s Q\/k Q)\/Q=h) A (fun Q=>(la Q\/z Q)\/Q=h) H':=by
 obtain⟨lv,gW,gl⟩:=kv.gW;have hk:=kv.tx.d.okH;have f8:H.length<=200:=by
  obtain⟨_,_,_,_,_,_,_,_,_,hr,_⟩:=kv.tx;have:=hr.cnt;omega
 have f9:e.length<=cp H:=by
  obtain⟨_,_,_,_,_,_,Ad,_⟩:=kv.tx;exact Ad.2
 have f6:=cp_le H;have g0:l.dl.length<=200:=by have:=V.few;rw[zV]at this;omega
 have hq:e.length<=cnt i 0 l.nb:=by have:=V.ct;have:=V.few;omega
 have d3:i 0≠0/\i 1≠0:=by
  obtain⟨_,_,_,_,_,_,_,_,_,_,_,Ad,_⟩:=kv.ds;exact Ad
 obtain⟨d1,d2⟩:=V.dl;have x3:Eng.ld1 (.ptr h 3) A=some (.int .i64 txg):=by rw[jR gW];rfl
 obtain⟨S,e1,U,Y,n1⟩:=st3 hk gW (x:= .int .i64 (txg+1:Nat)) rfl;have w1:Wld l S h q B C I J (txg+1) N i k s v e w H:=Wld.note kv.tx kv.ds kv.us gW Y U gl;obtain⟨H2,o,b2,Z,g2,m2,l2⟩:=box Y.ok (.cells [.int .i64 (0:Nat), .int .i64 (0:Nat), .int .u64 (0:Nat)] 42 1 false);have N2:=Z.next
 have t:=w1.prs Z;have a0:=zOM Z Y.ok U;have a5:GrP H2 lv w:=by
  obtain⟨g3,a,b⟩:=t.gW;rw[a0]at a;simp only[zC,AObj.cells.injEq,y9]at a;rw[a.1.2.2.2.2.1];exact b
 obtain⟨H3,hw | ⟨g5,ws',p,la',z,W,L,M',la,dr,e3,y,b9,o3,K,d4,c0⟩⟩:=zHZ (m+2) n (by omega) hn (txg:=txg+1) t.tx t.ds (fun r hr a6=>t.us r (qX _ (UO.2 ⟨hr,a6⟩))) (by omega) (by omega) (by omega)
 .omega
 have N3:=K.1.next
 obtain⟨o1,o2⟩:=JZ t.tx t.ds a0 (.inr ⟨_,rfl⟩);have l5: ¬(s o\/k o):=fun Ad=>by
  rcases Ad with Ad | Ad
  .have:=w1.tx.d.lt o Ad;omega
  .have:=w1.ds.lt Y.ok o Ad;omega
 obtain⟨k5,z5,g6⟩:=K.keep (A:=o) l2 l5;obtain⟨is,e4,g4,M,n4⟩:=kE y.d.okH (k5.trans g2) (l':=jX W) rfl rfl;have d5:stN 3 (.ptr o 0) (.agg (jX W)) H3=some (jU,is):=e4;obtain⟨kW,zW,g7⟩:=K.keep (A:=h) (Z.ok.lt a0) (fun Ad=>by rcases Ad with Ad | Ad;exact o1 Ad;exact o2 Ad);have c1:=kW.trans a0;have g8:=hk.lt gW;have g9:S.next=A.next:=n1
 have d6:h≠o:=by omega
 have a7:is.h.get h=_:=(M.keep _ (y.d.okH.lt c1) d6).trans c1;have c2:GrP H3 lv w:=a5.mono K.1 fun Q f=>by
  obtain⟨E,root,g,Ad⟩:=wG.get2 a5 f;obtain⟨y1,y2⟩:=JZ t.tx t.ds Ad (.inl ⟨_,_,_,rfl⟩);exact fun x=>by rcases x with x | x;exact y1 x;exact y2 x
 have d7:GrP is lv w:=c2.mono M fun Q f root=>by
  obtain⟨E,e',g,Ad⟩:=wG.get2 a5 f;subst root;rw[g2]at Ad;simp at Ad
 obtain⟨On,Nw,wv,dm,F,a1,G,b1,d8,b3,b4,b5,b6⟩:=id b9;have O:z B:=(G _).2 (.inl rfl);have d9:B≠o:=fun root=>z5 (.inr ((G _).2 (.inl root.symm)))
 have e0:=a1.stp y.d.okH M d9;have c8:Rw 3 is dr l.dl.length (l.dl.flatMap jX):=Rw.stp d4 M fun Q f root=>l5 (.inl (root▸(c0 Q f).2.2))
 obtain⟨Hg,eg,c3,sg,ng⟩:=zGe (dy (m+2)) n l.dl.length 0 n is p (by omega) (by omega) (by omega) M.ok e0 a7 c8 (fun Q f root=>(c0 Q f).2.1 (root▸O)) (by rw[yD];exact d1) (by
  rw[yD];intro r hr;obtain⟨q1,q2,q3⟩:=d2 r hr;exact⟨q1,q2,o3.keep1 q3⟩)
 rw[yD]at c3;have Ng:=sg.next
 obtain⟨u,e5,e2,s5⟩:=zFc m n (by omega) sg.ok c3 (by omega);have N5:=s5.next
 have a8:Hg.h.get h=_:=(sg.keep _ (M.ok.lt a7) (fun root=>zW (.inr (root▸O)))).trans a7;have e6:u.h.get h=_:=(s5.keep _ (sg.ok.lt a8) (fun root=>zW (.inr (root▸O)))).trans a8;have h0:=y.d.okH.lt a1.bk.choose_spec;have c4:Stp (fun Q=>Q=B) is u:=sg.trans s5;have e7:GrP u lv w:=d7.mono c4 fun Q f root=>by
  obtain⟨E,e',g,Ad⟩:=wG.get2 c2 f;have:=a1.bk.choose_spec;subst root;rw[this]at Ad;simp at Ad
 have a9:Stp (fun Q=>Q=o\/Q=B) H3 u:=⟨s5.ok,by omega,fun j hA hS=>by
  rw[c4.keep j (by omega) (fun root=>hS (.inr root)),M.keep j hA (fun root=>hS (.inl root))]⟩
 have nz: ∀Q,la Q-> ¬(Q=o\/Q=B):=fun Q f root=>by
  rcases root with root | root
  .exact z5 (.inl (root▸f))
  .exact(y.dsk b9).1 B O (root▸f)
 have b0: ∀Q,z Q->Q≠B-> ¬(Q=o\/Q=B):=fun Q f a6 root=>by
  rcases root with root | root
  .exact z5 (.inr (root▸f))
  .exact a6 root
 have dS:B≠q/\B≠Nw/\(∀Q,Blk wv Q->Q≠B)/\On≠B/\On≠o:=by
  have gS:=a1.bk.choose_spec;refine⟨kC gS F.gD (by simp),kC gS F.gN (by simp),fun Q f root=>kC gS (F.ow.get f) (by simp) root.symm,fun root=>kC gS F.gO (by simp) root.symm,fun root=> ?_⟩;have:=k5.trans g2;rw[<-root,F.gO]at this;cases this
 have c5:DkI u q l.nb ws' On Nw wv dm:=F.stp y.d.okH a9 (b0 _ ((G _).2 (.inr (.inl rfl))) fun root=>dS.1 root.symm) (fun root=>by rcases root with root | root;exact dS.2.2.2.2 root;exact dS.2.2.2.1 root) (b0 _ ((G _).2 (.inr (.inr (.inl rfl)))) fun root=>dS.2.1 root.symm) fun Q f=>b0 _ ((G _).2 (.inr (.inr (.inr f)))) (dS.2.2.1 Q f)
 have c6:uV (.ptr q 0) .nP { l with ws:=ws',dl:=[] } u C M' J la W [] w L:=by
  obtain⟨e8,es',c7,z1,ti,z3,z4,e9,z6,z7,a2⟩:=y;have f1:es'=[]:=by
   have:=ti.pq.len;exact zR (by simpa using this)
  subst f1;have:=ti.wr a9 (fun Q f=>by
   rcases f with root | root | root | ⟨w,a4,_⟩
   .exact nz Q ((a2 Q).2 (.inl root))
   .exact nz Q ((a2 Q).2 (.inr (.inl root)))
   .exact nz Q ((a2 Q).2 (.inr (.inr root)))
   .simp at a4) c5
  exact⟨e8,[],c7,z1,this,z3,z4,e9,z6,z7,a2⟩
 have b7:v5 { l with ws:=ws',dl:=[] } [] W w L:=by
  obtain⟨_,_,_,_,_,_,_,_,_,b7,_⟩:=c6;exact b7
 obtain⟨b8,c9,d0⟩:=V.out o3 d3 b7 a4;have h3:=o3.ln;have f2:ws'.length<=200*(txg+1):=by omega
 have h4:cnt (zDF p (l.dl.map blk) l.nb) 0 l.nb<=510:=by have:cnt (zDF p (l.dl.map blk) l.nb) 0 l.nb+_=510:=b8.ct;omega
 have f3:Dsk u q B l.nb ws' la' (zDF p (l.dl.map blk) l.nb) z:=⟨On,Nw,wv,dm,c5,e2,G,b1,d8,b3,b4,⟨c9,d0⟩,by omega⟩;refine⟨u,ws',zDF p (l.dl.map blk) l.nb,la',z,W,L,M',la, ?_,⟨c6,f3,fun r hr=> ?_,lv,e6,e7⟩,b8,f2, ?_⟩
 .have f4:(txg:Int)+((1:Nat):Int)=((txg+1:Nat):Int):=by omega
  have r2:Eng.ld1 (.ptr h 2) S=some (.ptr C 0):=by rw[jR U];rfl
  have r1:Eng.ld1 (.ptr h 1) S=some (.ptr B 0):=by rw[jR U];rfl
  have r3:Eng.ld1 (.ptr h 3) S=some (.int .i64 (txg+1:Nat)):=by rw[jR U];rfl
  have f5:Eng.ld1 (.ptr h 1) Hg=some (.ptr B 0):=by rw[jR a8];rfl
  simp(maxSteps:=999999)(disch:=omega) only[f17,eZ,x3,f4,e1,r2,r1,r3,b2,e3,jS,nth,d5,eg,zO4,f5,e5]
 .have Ad:zDF p (l.dl.map blk) l.nb (blk r)=1:=b8.us r hr;show zDF p (l.dl.map blk) l.nb (blk r)≠0;omega
 .refine⟨⟨s5.ok,by omega,fun Q f hS=> ?_⟩,fun Q f=> ?_⟩
  .have h1: ¬(s Q\/k Q):=fun x=>hS (.inl x)
   have h2:Q≠h:=fun x=>hS (.inr x)
   obtain⟨kB,zB,_⟩:=K.keep (A:=Q) (by omega) h1;rw[a9.keep Q (by omega) (fun root=>by rcases root with root | root;omega;exact zB (.inr (root▸O))),kB,Z.keep Q (by omega) (fun x=>x),Y.keep Q f h2]
  .rcases f with f | f
   .rcases K.2 Q f with x | x
    .exact .inl (.inl x)
    .exact .inr (by omega)
   .exact .inl (.inr f)
end Go.Eng.Sh
end
section
namespace Go.Bk
open Go.Nd (Str be)
theorem zLU (f:h<18446744073709551616)(hb:q<18446744073709551616)(a:h*1099511628211 % 18446744073709551616=q*1099511628211 % 18446744073709551616):h=q:=by
 have key: ∀x:Nat,x<18446744073709551616->x=(x*1099511628211 % 18446744073709551616)*14886173955864302971 % 18446744073709551616:=fun x i=>by
  have e:(1099511628211*14886173955864302971) % 18446744073709551616=1:=by decide
  rw[Nat.mod_mul_mod,Nat.mul_assoc,Nat.mul_mod,e,Nat.mul_one,Nat.mod_mod,Nat.mod_eq_of_lt i]
 rw[key h f,key q hb,a]
theorem zDN (u b:Nat):Nat.xor (Nat.xor u b) b=u:=by
 show(u ^^^ b) ^^^ b=u;rw[Nat.xor_assoc,Nat.xor_self,Nat.xor_zero]
theorem zJR (a:h<18446744073709551616)(hb:q<256):Nat.xor h q<18446744073709551616:=
 Nat.xor_lt_two_pow (n:=64) a (by omega)
theorem zCy (a:h<18446744073709551616)(f:q<18446744073709551616)(hb:B<256)(i:C<256)(u:Nat.xor h B*1099511628211 % 18446744073709551616=Nat.xor q C*1099511628211 % 18446744073709551616):Nat.xor h B=Nat.xor q C:=zLU (zJR a hb) (zJR f i) u
theorem zF0: ∀(s:Str) {u v:Nat},u<18446744073709551616->v<18446744073709551616->u≠v->zBG u s≠zBG v s
 | [],_,_,_,_,h=>h
 | b::s,u,v,hu,hv,h=>by
  rw[zBG,zBG];refine zF0 s (Nat.mod_lt _ (by omega)) (Nat.mod_lt _ (by omega)) fun e=>h ?_
  have f:=zCy hu hv (UInt8.toNat_lt b) (UInt8.toNat_lt b) e;have a:=congrArg (fun x=>Nat.xor x b.toNat) f;simp only[zDN]at a;exact a
theorem zCz: ∀(s:Str) (k:Nat) (c:UInt8) {u:Nat},u<18446744073709551616->(h:k<s.length)->s[k]≠c->zBG u (s.set k c)≠zBG u s
 | b::s,0,c,u,hu,_,hne=>by
  rw[List.set_cons_zero,zBG,zBG];refine zF0 s (Nat.mod_lt _ (by omega)) (Nat.mod_lt _ (by omega)) fun e=>hne ?_
  have f:=zCy hu hu (UInt8.toNat_lt c) (UInt8.toNat_lt b) e;have a:=congrArg (fun x=>Nat.xor u x) f;have i: ∀x,Nat.xor u (Nat.xor u x)=x:=fun x=>by
   show u ^^^ (u ^^^ x)=x;rw[<-Nat.xor_assoc,Nat.xor_self,Nat.zero_xor]
  simp only[i]at a;exact(UInt8.toNat_inj.1 a).symm
 | b::s,k+1,c,u,hu,h,hne=>by
  rw[List.set_cons_succ,zBG,zBG];exact zCz s k c (Nat.mod_lt _ (by omega)) (by simpa using h) (by simpa using hne)
 | [],_,_,_,_,h,_=>by simp at h
theorem zI9 {s:Str}{c:UInt8}(k:h<s.length)(a:s[h]≠c):sumS (s.set h c)≠sumS s:=zCz s h c (by omega) k a
end Go.Bk
end
section
namespace Go.Eng.Sh
open Go.Nd (Ptr sumL leafOf Kvs Srt mayK putP delP lookP)
open Go.Bt Go.Bk
theorem zMo(f:A.ok)(h:wG 3 42 A t H.length (H.flatMap jX))(hl:H.length<=1000000000):
  ∃a H',f81 D n [t] A=some (a,H')/\Prs A H'/\wG 3 42 H' a H.length (H.flatMap jX)/\ ∀B,Blk a B->A.next<=B:=by
 by_cases i:t= .nS
 .subst i;exact⟨.nS,A,by unfold f81;rfl,zOJ f,h,fun B j=>(zOO.1 j).elim⟩
 .refine W0 D n f h.row i (fun e=> ?_) hl;subst e;rcases h with⟨_,⟨h,_⟩ | ⟨_,h,_⟩⟩ | ⟨_,_,_,_,h,_⟩<;>cases h
theorem TI.hold (m:TI l A h q t F v p e B W): ∀kv∈p,∀H,vV kv.2 H->H<A.next:=fun kv f H o=>by
 obtain⟨i,E⟩:=m.pq.mem kv f;exact E.lt o
theorem zJa(t:uV (.ptr C 0) .nP l A h q B k v e w H)(a5:l.dl.length<=1000000000):
  ∃H' Y M' W',f28 D n [.ptr h 0] A=some (.ptr Y 0,H')/\Prs A H'/\uV (.ptr C 0) .nP { l with x:=k} H' Y M' B W' v e w H/\ ∀M,W' M->A.next<=M:=by
 obtain⟨y,es,m,hc,a,h2,h3,h4,h5,h6,hW⟩:=t;have I:=a.ok;have a6: ∀M,k M->M<A.next:=fun M f=>by
  rcases(hW M).1 f with rfl | rfl | Ad
  .exact I.lt a.gT
  .exact I.lt a.gM
  .exact a.dg.lt Ad
 obtain⟨a7,On,Nw,wv,ds,a8,a9,dk,a3⟩:=a.dk;obtain rfl:C=a7:=by simpa using a9
 have r8:ldN 8 (.ptr h 0) A=some (.agg (wQ (.ptr C 0) .nP v q m y)):=by rw[jW a.gT];rfl
 have b0:=(wG.row a.dg).isCell;have b2:jV (wQ (.ptr C 0) .nP v q m y)=true:=by simp only[jV,wQ,b0,Bool.true_and,Bool.and_true];rfl
 obtain⟨H1,p,b1,O,g1,m1,n1⟩:=box I (.cells [.nP, .nP, .int .i64 (0:Nat), .int .i64 (0:Nat), .int .u64 (0:Nat), .nM, .int .u64 (0:Nat), .nS] 140 1 false);obtain⟨i,e2,g2,z,n2⟩:=kE O.ok g1 (l':=wQ (.ptr C 0) .nP v q m y) rfl b2;have b3:stN 8 (.ptr p 0) (.agg (wQ (.ptr C 0) .nP v q m y)) H1=some (jU,i):=e2;have P2:Prs A i:=O.fresh z fun M f=>by omega
 have N1:=O.next;have N2:=z.next
 have Z:=a.prs P2;have L:Prs i (i.push (.map [10] es)):=(zOJ z.ok).push _;have Q:=zOB i (.map [10] es);have n3:=zOC i (.map [10] es);have S:m80 D n [.map q] i=some (.map i.next,i.push (.map [10] es)):=by
  obtain⟨t,ht⟩:=qK.1 (Eng.T.set_some 40 i.h i.next (.map [10] es))
  simp only[m80,clnK,Z.gM,z.ok i.next (zP _),ht,kI,AH.push,yB]
 generalize i.push (.map [10] es)=H3 at L Q n3 S;obtain⟨j,b4⟩: ∃j,j=i.next:=⟨_,rfl⟩
 rw[<-b4]at Q S;have N3:=L.next
 have b5:=zOM L z.ok g2;obtain⟨H4,e4,g4,J,n4⟩:=xI L.ok b5 (o:=5) (x:= .map j) rfl (by simp[wQ]);have N4:=J.next
 have U:Prs A H4:=(P2.trans L).fresh J fun M f=>by omega
 have a0:=a.prs U;obtain⟨s,H5,e5,F,a1,f5⟩:=zMo D n U.ok a0.dg a5;have N5:=F.next
 have b6:=zOM F J.ok g4;have a4:=(wG.row a1).isCell;obtain⟨K,e6,g6,V,n6⟩:=xI F.ok b6 (o:=7) (x:=s) a4 (by simp[wQ]);have G:Prs A K:=(U.trans F).fresh V fun M f=>by omega
 have b7:K.h.get j=some (.map [10] es):=by
  rw[V.keep _ (by omega) (by omega),F.keep _ (by omega) (fun x=>x),J.keep _ (by omega) (by omega)];exact Q
 have b9:p<H1.next:=n1
 have b8:K.h.get p=some (.cells (wQ (.ptr C 0) .nP v j m s) 140 1 false):=g6;have nA: ∀M,Blk s M->M≠p:=fun M f=>by have:=f5 M f;omega
 refine⟨K,p,j,fun M=>M=p\/M=j\/Blk s M, ?_,G,⟨s,es,m,hc,⟨G.ok,b8,b7,a.pq.frame fun w _ nd hn=>hn.prs G,⟨C,On,Nw,wv,ds,a8,rfl,dk.prs I G,a3⟩,a.cn,a1.mono V nA,fun w N M f u=> ?_,a.few,fun M f=>qI (a6 M f) G.next⟩,h2,h3,h4,h5,h6,fun M=>Iff.rfl⟩,fun M f=> ?_⟩
 .have l5:ld1 (.ptr h 5) i=some (.map q):=by rw[jR Z.gT];rfl
  have l7:ld1 (.ptr h 7) H4=some y:=by rw[jR a0.gT];rfl
  simp(maxSteps:=999999)(disch:=omega) only[f28,eZ,cq,r8,b1,b3,l5,S,e4,l7,e5,e6]
 .rcases u with u | u
  .have:=a.hold w N M f;have:=f5 M u;omega
  .obtain⟨nd,a2⟩:=a.pq.node w N;rcases(hW M).1 u with rfl | rfl | Ad
   .exact a2.nblk a.gT (.inl ⟨_,_,_,_,rfl,fun _ _ E=>by cases E⟩) f
   .exact a2.nblk a.gM (.inr (.inl ⟨_,_,rfl⟩)) f
   .exact a.ds w N M f (.inl Ad)
 .rcases f with Ad | Ad | Ad
  .omega
  .omega
  .have:=f5 M Ad;omega
theorem TI.bad (a:TI l A h q (.ptr B 0) .nP v p e C t)(s:Stp k A G)(f: ∀H,(H=h\/H=q\/Blk t H\/ ∃kv∈p,vV kv.2 H)-> ¬k H){Ad:Prop}(z:DkI G B l.nb P I J F m)(j:zJM { l with bd:=Ad} P):TI { l with bd:=Ad} G h q (.ptr B 0) .nP v p e C t:=
 ⟨s.ok,by rw[s.keep _ (a.ok.lt a.gT) (f _ (.inl rfl))];exact a.gT,by rw[s.keep _ (a.ok.lt a.gM) (f _ (.inr (.inl rfl)))];exact a.gM,a.pq.frame fun kv M root j=>j.stp s fun E es=>f _ (.inr (.inr (.inr ⟨kv,M,es⟩))),⟨_,_,_,_,_,_,rfl,z,j⟩, .inl rfl,a.dg.mono s fun E es=>f _ (.inr (.inr (.inl es))),a.ds,a.few,fun H H'=>qI (a.xl H H') s.next⟩
theorem uV.prs {d c:AV}{E:Ev}{H H':AH}{a M L:Nat}{W:Nat->Prop}{root:Ptr}{q:PN}{kv:Kvs}{T:List Ptr}(h:uV d c E H a M L W root q kv T)(s:Prs H H'):uV d c E H' a M L W root q kv T:=by
 obtain⟨i,es,f,j,m,o⟩:=h;exact⟨i,es,f,j,m.prs s,o⟩
theorem zDL.prs (h:zDL A t w)(p:Prs A G):zDL G t w:=Rw.stp h p fun _ _ x=>x
theorem zEs (m n:Nat)(hm:400000000<=m)(hn:400000000<=n)(d2:l.bd->Q≠R)
  (G:uV (.ptr C 0) .nP l A h q B s v [] w H) (gW:A.h.get I=some (.cells [t,F, .ptr J 0,W,c] 39 1 false)) (gl:zDL A c w) (hi:N<w.length) (e8:w.length<=1000) (hL:B<=1000000) (e9:l.dl.length<=1000):
  ∃H',zEi (dy (m+2)) n [.int .u8 Q, .ptr I 0, .int .u8 R, .ptr h 0, .int .i64 N] A=some (.norm [.int .u8 Q, .ptr I 0, .int .u8 R, .ptr h 0, .int .i64 (N+1:Nat)],H')/\Prs A H':=by
 have j:=G.d.okH;obtain⟨hs,d3⟩:Srt w/\ ∀p∈w,mayK p.1=true/\p.2.length<=200:=by
  obtain⟨_,_,_,_,_,_,_,_,_,hr,_⟩:=G;exact hr.srt
 have a1:=d3 _ (yJ hi);have a2:lookP w[N].1 w=some w[N].2:=zFU hs N hi;have u: ∀ {H':AH},Prs A H'->Eng.ld1 (.ptr I 4) H'=some c:=fun p=>by rw[jR (zOM p j gW)];rfl
 have a4:lnSl c=some (.int .i64 w.length):=gl.lnSl;have a5:(N:Int)< (w.length:Int):=by omega
 have hi1:(N:Int)+((1:Nat):Int)=((N+1:Nat):Int):=by omega
 obtain⟨E,o,i1,i2,i3,i4⟩:=gl.at hi;have T:=i1 .i64 _ rfl;have O: ∀ {H':AH},Prs A H'->Eng.ld1 (.ptr E (o+0)) H'=some (S w[N].1)/\Eng.ld1 (.ptr E (o+1)) H'=some (S w[N].2):=fun p=>by
  obtain⟨A',o',j1,j2,j3,j4⟩:=(gl.prs p).at hi;have:=j1 .i64 _ rfl;rw[T]at this;simp only[zC,AV.ptr.injEq]at this;obtain⟨rfl,rfl⟩:=this;exact⟨j3,j4⟩
 obtain⟨H1,r,e1,kv,hr⟩:=zLQ (m+1) n (by omega) w[N].1 G.d (by omega) (by omega);rw[if_pos a1.1,a2]at hr;have a6:=G.prs kv;obtain⟨H2,f1,M2,W2,e2,p2,a7,d4⟩:=zJa (dy (m+2)) n a6 (by omega);have root:=kv.trans p2;have i: ¬(((0:Nat):Int)≠((0:Nat):Int)):=by omega
 have U: ¬((52:Nat):Int)=((0:Nat):Int):=by omega
 have V: ¬(((52:Nat):Int)≠((52:Nat):Int)):=by omega
 have d5:J6 .neq (S w[N].2) (S w[N].2)=some (.bool false):=by rw[zDw];simp
 have d6:hH w[N].1 w=0:=by simp only[hH,a1.1,if_true,a2,jM]
 obtain⟨k0,f2⟩:=O (zOJ j);obtain⟨k1,d7⟩:=O kv;obtain⟨k2,f3⟩:=O root;have d8: ∃M:AH,Prs A M/\ ∀ {x:Rs},(∀y,y=some (.norm [.int .u8 Q, .ptr I 0, .int .u8 R, .ptr h 0, .int .i64 (N+1:Nat)],M)->y=x)->x=(bR (f28 (dy (m+2)) n [.ptr h 0] H1) fun K A=>bV (xZ (.ptr I 0)) fun b2=>bV (fAd 4 b2) fun b3=>bV (Eng.ld1 b3 A) fun b4=>bV (gY 2 b4 (.int .i64 N)) fun b5=>bV (fAd 0 b5) fun b6=>bV (Eng.ld1 b6 A) fun b7=>bR (f29 (dy (m+2)) n [K,b7] A) fun Y A=>bV (kO .neq Y (.int .i64 (.ofNat 0))) fun a=>
   jn (wnt a true (bV (kO .neq Y (.int .i64 (.ofNat 52))) fun b8=>some (.norm [b8],A)) (some (.norm [jU],A))) fun vs A=>hd vs fun Z vs=>
   jn (wnt Z false (bR (f24 (dy (m+2)) n [K] A) fun b9 A=>bV (kO .neq b9 (.int .i64 (.ofNat 0))) fun c0=>some (.norm [c0],A)) (some (.norm [jU],A))) fun vs A=>hd vs fun a9 vs=>
   jn (wnt a true (bV (pk3 (some Z) (some (.bool true)) (some a9)) fun c1=>some (.norm [c1],A)) (some (.norm [jU],A))) fun vs A=>hd vs fun a0 vs=>
   jn (wnt a0 false (bR (f19 (dy (m+2)) n [K] A) fun c2 A=>bR (f19 (dy (m+2)) n [.ptr h 0] A) fun c4 A=>bV (gK .neq (eqA [6,6,10] c2 c4)) fun c5=>some (.norm [c5],A)) (some (.norm [jU],A))) fun vs A=>hd vs fun b0 vs=>
   jn (wnt a true (bV (pk3 (some a0) (some (.bool true)) (some b0)) fun c6=>some (.norm [c6],A)) (some (.norm [jU],A))) fun vs A=>hd vs fun b1 vs=>
   bV (pk3 (some a) (some b1) (some (.bool false))) fun c7=>cnd c7 (bV (some (.bool false)) fun c8=>some (.ret c8,A))
   (bV (kO .add (.int .i64 N) (.int .i64 (.ofNat 1))) fun c9=>some (.norm [.int .u8 Q, .ptr I 0, .int .u8 R, .ptr h 0,c9],A))):=by
  rcases zH0 m n (by omega) (by omega) (k:=w[N].1) a7.d (by omega) (by omega)with⟨hb,M,d0,z⟩ | ⟨M,E3,W3,T3,d0,t3,b,c3⟩
  .have a8:=a7.prs z;have e4:=zJ5 (dy (m+2)) n a8;obtain⟨H5,e5,p5⟩:=zBK (dy (m+2)) n a8;have d9:=(a6.prs p2).prs (z.trans p5);obtain⟨H6,e6,p6⟩:=zBK (dy (m+2)) n d9;refine⟨H6,(root.trans z).trans (p5.trans p6),fun {x} Ad=> ?_⟩;rw[<-Ad _ rfl];have hz:(([]:PN).length:Nat)=0:=rfl;rw[hz]at e4;have e0:gK .neq (eqA [6,6,10] (.agg (jX v)) (.agg (jX v)))=some (.bool false):=by rw[zGM];simp[gK,wC]
   simp(maxSteps:=999999)(disch:=omega) only[eZ,e2,u root,T,k2,d0,U,V,ne_eq,yQ,e4,i,e5,e6,e0,hi1]
  .rw[d6]at d0;refine⟨M,⟨b.1.ok,by have:=b.1.next;have:=root.next;omega,fun L hB _=> ?_⟩,fun {x} Ad=> ?_⟩
   .rw[b.1.keep L (by have:=root.next;omega) (fun f=>by have:=d4 L f;have:=kv.next;omega),root.keep L hB (fun x=>x)]
   .rw[<-Ad _ rfl];simp(maxSteps:=999999)(disch:=omega) only[eZ,e2,u root,T,k2,d0,i,hi1]
 obtain⟨M,z,d1⟩:=d8;refine⟨M, ?_,z⟩;have Ad:=d1 (x:=some (.norm [.int .u8 Q, .ptr I 0, .int .u8 R, .ptr h 0, .int .i64 (N+1:Nat)],M)) (fun y f=>f);rw[Ad];rcases hr with rfl | ⟨hb,rfl⟩
 .simp(maxSteps:=999999)(disch:=omega) only[zEi,eZ,u (zOJ j),a4,a5,T,k0,e1,geR,jS,nth,u kv,d7,d5,i]
 .have f4:=d2 hb;have e7: ¬(Q:Int)=(R:Int):=by omega
  simp(maxSteps:=999999)(disch:=omega) only[zEi,eZ,u (zOJ j),a4,a5,T,k0,e1,jS,nth,U,V,e7,ne_eq,yQ]
theorem zHn (m n:Nat)(hm:400000000<=m)(z:400000000<=n){lv:AV}{c was:Nat}(f:l.bd->c≠was)
  (j:uV (.ptr C 0) .nP l A h q B k v [] w H) (s:A.h.get I=some (.cells [t,F, .ptr J 0,W,lv] 39 1 false)) (gl:zDL A lv w) (u:w.length<=1000) (hL:B<=1000000) (Ad:l.dl.length<=1000):
  ∀e i L H',i+e=w.length->e<L->Prs A H'-> ∃o,kL L (zEi (dy (m+2)) n) [.int .u8 c, .ptr I 0, .int .u8 was, .ptr h 0, .int .i64 ((i:Nat):Int)] H'=some (.exit 2 [],o)/\Prs A o:=by
 intro e
 induction e with
 | zero=>
  intro i L H' hi root p;obtain⟨L,rfl⟩: ∃k',L=k'+1:=⟨L - 1,by omega⟩;have G:Eng.ld1 (.ptr I 4) H'=some lv:=by rw[jR (zOM p j.d.okH s)];rfl
  have x:lnSl lv=some (.int .i64 w.length):=gl.lnSl;have y: ¬((i:Nat):Int)< (w.length:Int):=by omega
  refine⟨H',kD ?_,p⟩;simp(maxSteps:=999999)(disch:=omega) only[zEi,eZ,G,x,y]
 | succ e ih=>
  intro i L H' hi root p;obtain⟨L,rfl⟩: ∃k',L=k'+1:=⟨L - 1,by omega⟩;obtain⟨E,M,K⟩:=zEs m n hm z f (j.prs p) (zOM p j.d.okH s) (gl.prs p) (show i<w.length by omega) u hL Ad;obtain⟨N,O,Q⟩:=ih (i+1) L E (by omega) (by omega) (p.trans K);exact⟨N,(wB M).trans O,Q⟩
theorem zEp (b:Str)(k c:Nat)(a:c<256):(jT b).set k (.int .u8 c)=jT (b.set k (UInt8.ofNat c)):=by
 simp only[jT,List.map_set];congr 2;simp only[UInt8.toNat_ofNat'];omega
theorem zJl (m n:Nat)(hm:400000000<=m)(hn:400000000<=n){E:Ev}{Ad c:Nat}{W:Nat->Prop}{kv:Kvs}{T:List Ptr}(a0:Int)(w:Wld E G h Ad q B C I 0 J i s W v e kv T)(d1:Sty E i T)(h6:E.nb=512)(d2:E.ws.length<=0)(a7:kv.length<=150)(hL:I<=100000)(ha:N<65536)(hc:c<256)(hp:Prs A G)(a2: ∀H,(W H\/s H\/H=h)->A.next<=H):
  ∃H',zM0 (dy (m+2)) n [.int .u16 N, .int .i64 a0, .int .u8 c, .ptr h 0] G=some (.ret (.bool true),H')/\Prs A H':=by
 obtain⟨y,F,b2,h7,V1,a5,u,M1,W1,e1,la,c8,h5,a1⟩:=zDO m n (by omega) (by omega) w d1 (by omega) d2 a7;have N1:=a1.1.next
 have t:=la.tx.d.okH;have a8:Prs A y:=⟨t,by have:=hp.next;omega,fun H f _=>by
  rw[a1.1.keep H (by have:=hp.next;omega) (fun x=>by
   have:=a2 H (by rcases x with(x | x) | x;exact .inl x;exact .inr (.inl x);exact .inr (.inr x));omega),hp.keep H f (fun x=>x)]⟩
 have b9: ∀H,V1 H->A.next<=H:=fun H f=>by
  have:=hp.next
  rcases a1.2 H (.inl (.inr f))with(z | z) | z
  .rcases z with z | z
   .exact a2 H (.inl z)
   .exact a2 H (.inr (.inl z))
  .exact a2 H (.inr (.inr z))
  .omega
 obtain⟨lv,O,b3⟩:=la.gW;obtain⟨On,Nw,wv,dm,a3,d3,d4,h8,h9,i0,i1,i2,i3⟩:=id la.ds;obtain⟨_,c9⟩:=JZ la.tx la.ds O (.inr ⟨_,rfl⟩);have b4:cnt b2 0 E.nb+u.length=510:=by
  have H0:=c8.ct;have h2:dsk u++({ E with ws:=F,dl:=[] } :Ev).dl=u:=by
   show dsk u++[]=u;rw[qW];refine zGV fun r hr=> ?_
   obtain⟨_,_,_,_,_,_,_,_,_,a9,_⟩:=la.tx;obtain⟨nd,hq⟩:=a9.known r hr;obtain⟨a,rfl,S | ⟨_,S⟩⟩ | ⟨_,S⟩:=vT hq
   .simp[jZ]at S
   .simp[jZ]at S
   .have:=(zJN S).1;omega
  rw[h2]at H0;exact H0
 have d5:u.length<=200:=by
  obtain⟨_,_,_,_,_,_,_,_,_,hr,_⟩:=la.tx;have:=hr.cnt;omega
 obtain⟨is,d6⟩: ∃is,is=u.length:=⟨_,rfl⟩;rw[<-d6]at b4 d5;obtain⟨fr,b5⟩: ∃fr,fr=cnt b2 0 E.nb:=⟨_,rfl⟩;have c0:=zCD (dy (m+2)) n d3;have b8:f23 (dy (m+2)) n [.ptr q 0] y=some (.int .i64 ((fr:Nat):Int),y):=by rw[b5];exact c0
 rw[<-b5]at b4;obtain⟨j,i4⟩: ∃j,j=2+N % (is+1):=⟨_,rfl⟩;have i5:j<512:=by
  have:=Nat.mod_lt N (show 0<is+1 by omega);omega
 have c1:cvI .i64 (.int .u16 N)=some (.int .i64 N):=by rw[QX,wrap_i64 (by omega) (by omega)]
 have c2:((510:Nat):Int) - ((fr:Nat):Int)=((is:Nat):Int):=by omega
 have c3:((is:Nat):Int)+((1:Nat):Int)=((is+1:Nat):Int):=by omega
 have c4:kO .rem (.int .i64 N) (.int .i64 (is+1:Nat))=some (.int .i64 (N % (is+1):Nat)):=by
  rw[UY _ _ _ (by omega)];congr 2
 have c5:((2:Nat):Int)+((N % (is+1):Nat):Int)=((j:Nat):Int):=by omega
 have r1:Eng.ld1 (.ptr h 1) y=some (.ptr q 0):=by rw[jR O];rfl
 have r0: ∀ {H':AH},Prs y H'->Eng.ld1 (.ptr h 0) H'=some (.ptr Ad 0):=fun p=>by rw[jR (zOM p t O)];rfl
 have r2: ∀ {H':AH},Prs y H'->Eng.ld1 (.ptr h 2) H'=some (.ptr B 0):=fun p=>by rw[jR (zOM p t O)];rfl
 obtain⟨H2,e2,p2⟩:=zAX (dy (m+2)) n t a3 (k:=j) (show j<E.nb by omega);obtain⟨At,b0⟩: ∃At,At=zBi j F:=⟨_,rfl⟩;have b6:At.length=512:=by rw[b0];exact zDu a3.ln
 rw[<-b0]at e2;obtain⟨Z,hZ⟩: ∃Z:Str,Z=List.replicate 512 0:=⟨_,rfl⟩;have d7:Z.length=512:=by rw[hZ];exact List.length_replicate
 have d8:rep 512 [AV.int .u8 (0:Nat)]=jT Z:=by rw[dB,hZ]
 obtain⟨H3,Q,x3,p3,g3,m3,n3⟩:=box p2.ok (.cells (jT Z) 55 1 false);obtain⟨H4,e4,g4,s4⟩:=stR p3.ok g3 d7 b6;have N2:=p2.next;have N3:=p3.next;have N4:=s4.next
 have d9:Prs y H4:=(p2.trans p3).fresh s4 fun H f=>by omega
 obtain⟨k,i6⟩: ∃k,k=(a0 % 18446744073709551616).toNat % 512:=⟨_,rfl⟩;obtain⟨U,e0⟩: ∃U,U=(a0 % 18446744073709551616).toNat:=⟨_,rfl⟩;have c6:k<512:=by omega
 have q1:cvI .u64 (.int .i64 a0)=some (.int .u64 ((U:Nat):Int)):=by
  rw[QX,wrap_u64,e0];congr 2;omega
 have q2:kO .rem (.int .u64 ((U:Nat):Int)) (.int .u64 (512:Nat))=some (.int .u64 ((k:Nat):Int)):=by
  rw[UY _ _ _ (by omega)];have V:((k:Nat):Int)=((U % 512:Nat):Int):=by omega
  rw[V];congr 2
 have q3:cvI .i64 (.int .u64 ((k:Nat):Int))=some (.int .i64 ((k:Nat):Int)):=by rw[QX,wrap_i64 (by omega) (by omega)]
 have q4:vU 512 1 (.ptr Q 0) (.int .i64 ((k:Nat):Int))=some (.ptr Q k):=by
  have:=xR 512 Q 0 .i64 k rfl c6;rwa[j7]at this
 obtain⟨was,b1⟩: ∃was,was=(At[k]'(by omega)).toNat:=⟨_,rfl⟩;have i7:was<256:=by rw[b1];exact UInt8.toNat_lt _
 have q5:Eng.ld1 (.ptr Q k) H4=some (.int .u8 ((was:Nat):Int)):=wO g4 (by
  rw[jT,jP,zK (by omega),b1];rfl)
 obtain⟨H5,e5,g5,s5,n5⟩:=xI s4.ok g4 (o:=k) (x:= .int .u8 c) rfl (by rw[jY];omega);rw[zEp _ _ _ hc]at g5;obtain⟨M,a4⟩: ∃M,M=At.set k (UInt8.ofNat c):=⟨_,rfl⟩;rw[<-a4]at g5;have a6:M.length=512:=by rw[a4,List.length_set];exact b6
 have N5:=s5.next
 have P5:Prs y H5:=d9.fresh s5 fun H f=>by omega
 obtain⟨i8,i9,h4,j0,e3,z2,z3,z4,z5,a9,j1⟩:=id la.tx;have f1:uV (.ptr Ad 0) .nP { E with ws:=F,dl:=[] } H5 B M1 I W1 a5 [] kv u:=la.tx.prs P5;obtain⟨H6,e6,p6⟩:=zBK (dy (m+2)) n f1;have Y:=P5.trans p6;have f2:=a3.prs t Y;obtain⟨H7,f3,M2,W2,e7,p7,f4,f5⟩:=zCL (dy (m+2)) n (by omega) (E:= { E with ws:=F,dl:=[] }) p6.ok (Ad:=Ad) (p:=a5) (kv:=kv) (T:=u) ⟨On,Nw,wv,dm,f2⟩ a9 (fun H f=>by
  have:=e3.xl H f;have:=Y.next
  omega)
 have As:=Y.trans p7;have f6:=zOM (p6.trans p7) s5.ok g5;have f7:ldN 512 (.ptr Q 0) H7=some (.agg (jT M)):=ldR f6 a6;have f8:=a3.prs t As;obtain⟨H8,j2,j3,e8,f9,L,_⟩:=V4 (dy (m+2)) n As.ok f8 (k:=j) (show j<E.nb by omega) (b:=M) a6 (by omega);have N6:=p6.next;have N7:=p7.next;have N8:=L.next
 have g0:=la.ds.lt t;have dV: ∀H,(H=Ad\/H=Nw\/Blk wv H)->V1 H:=fun H f=>(d4 H).2 (.inr f)
 have d0:zJM { E with ws:=F,dl:=[],bd:=c≠was} (F++[(j,M)]):=by
  intro x b hb;rw[cL];by_cases V:j=x
  .subst V;rw[if_pos rfl];have g1:blkAt j F=some b:=hb;have b7:At=b:=by rw[b0,zBi,g1];rfl
   by_cases ec:c=was
   .refine .inl ?_;have:UInt8.ofNat c=At[k]'(by omega):=by
     apply UInt8.toNat_inj.1;rw[UInt8.toNat_ofNat'];omega
    rw[a4,this,List.set_getElem_self,b7]
   .refine .inr ⟨ec,M,rfl,a6, ?_⟩;rw[a4,<-b7];refine zI9 (by omega) fun V=>ec ?_
    have:=congrArg UInt8.toNat V;rw[UInt8.toNat_ofNat']at this;omega
  .rw[if_neg V];exact .inl hb
 obtain⟨g2,g6,c7,y1,y2,y3,y4,y5,y6,y7,y8⟩:=id f4;have g7:g6=[]:=by
  have:=y2.pq.len;exact zR (by simpa using this)
 subst g7;have g8:uV (.ptr Ad 0) .nP { E with ws:=F,dl:=[],bd:=c≠was} H8 f3 M2 0 W2 a5 [] kv u:=by
  refine⟨g2,[],c7,y1,y2.bad L (fun H f x=> ?_) f9 d0,y3,y4,y5,y6,y7,y8⟩;have:=g0 H (dV H x);have hw:H6.next<=H:=f5 H (by
   rcases f with V | V | V | ⟨kv,a7,_⟩
   .exact(y8 H).2 (.inl V)
   .exact(y8 H).2 (.inr (.inl V))
   .exact(y8 H).2 (.inr (.inr V))
   .simp at a7)
  have:=Y.next
  omega
 have nV: ∀ {H:Nat} {o:AObj},y.h.get H=some o-> ¬V1 H->H8.h.get H=some o:=fun {H o} g hv=>by
  have:=t.lt g;rw[L.keep H (by have:=As.next;omega) (fun x=>hv (dV H x))]
  exact zOM As t g
 have g9:=nV O c9;have h0:GrP H8 lv kv:=(b3.prs As).mono L fun H f x=>by
  obtain⟨l,e',g,H0⟩:=wG.get2 b3 f;exact(JZ la.tx la.ds H0 (.inl ⟨_,_,_,rfl⟩)).2 (dV H x)
 obtain⟨H9,e9,p9⟩:=zHn m n hm hn (c:=c) (was:=was) (fun H0=>H0) g8 g9 h0.row (by omega) (by omega) (by show([]:List Ptr).length<=1000;simp) kv.length 0 n H8 (by omega) (by omega) (zOJ L.ok);refine⟨H9, ?_,⟨p9.ok,by have:=a8.next;have:=As.next;have:=p9.next;omega,fun H f _=> ?_⟩⟩
 .have h3: ¬(((0:Nat):Int)≠((0:Nat):Int)):=by omega
  have ck: ∀K:Rs,chk (Eng.ld1 (.ptr h 0) H6) (.ptr Ad 0) K=K:=fun K=>kY (r0 Y) (by simp[aveq])
  simp(config:= { maxSteps:=2000000}) (disch:=omega) only[zM0,eZ,e1,c1,r1,b8,c2,c3,c4,c5,r0 (zOJ t),e2,jS,nth,d8,x3,e4,q1,q2,q3,q4,q5,e5,r0 P5,r2 P5,e6,ck,e7,h3,r0 As,f7,e8,e9,zNW]
 .have:=a8.next;have:=As.next
  rw[p9.keep H (by omega) (fun x=>x),L.keep H (by omega) (fun x=>by have:=b9 H (dV H x);omega),As.keep H (by omega) (fun x=>x),a8.keep H f (fun x=>x)]
theorem zDV (s:Sp)(f:Srt w):(bQ s w).length<=w.length+1:=by
 rw[bQ];split
 .split
  .cases a:lookP s.k w with
   | some v0=>
    obtain⟨h,e⟩:=(QU f).2 v0 a;rw[zJZ f h s.v e];simp;omega
   | none=>
    have:=JE s.k w;rw[JW f (ZL a)];simp;omega
  .omega
 .split
  .cases a:lookP s.k w with
   | some v0=>
    obtain⟨h,e⟩:=(QU f).2 v0 a;rw[zKC f h e];simp;omega
   | none=>rw[UQ (ZL a)];omega
  .omega
def ByI (H0:AH)(f h j m:AV)(i:Nat)(o:List AV)(H:AH):Prop:= ∃E a Ad p s M L t is V W root q kv T,o=[f,h,j,m, .ptr a 0, .int .i64 i]/\Wld E H a Ad p s M L 0 t is V W root q kv T/\Sty E is T/\E.nb=512/\ ¬E.bd/\L<=200*i/\E.ws.length<=0/\kv.length<=i/\Prs H0 H/\(∀B,(W B\/V B\/B=a)->H0.next<=B)
theorem zHm (m n:Nat)(hm:400000000<=m)(hn:400000000<=n){l:List Sp}(hv:SpR A t l)(O: ∀s∈l,s.kd<256)(hi:h<l.length)(hl:l.length<=150)(y:ByI A t F W c h M G):
  ∃H H',zGm (dy (m+2)) n M G=some (.norm H,H')/\ByI A t F W c (h+1) H H':=by
 obtain⟨E,Wd,Ad,As,At,C,L,la,is,V,f,root,q,kv,T,rfl,w,Q,S,u,hL,U,a2,hp,a⟩:=y;have v:SpR G t l:=Rw.prs hv hp;obtain⟨H0,o,i1,i2,i3,i4,i5⟩:=v.at hi;have Y:=i1 .i64 _ rfl;have Z:(h:Int)< (l.length:Int):=by omega
 have hi1:(h:Int)+((1:Nat):Int)=((h+1:Nat):Int):=by omega
 have a0:Srt kv:=by
  obtain⟨_,_,_,_,_,_,_,_,_,hr,_⟩:=w.tx;exact hr.srt.1
 have N:=O _ (yJ hi);obtain⟨H1,E1,W1,T1,J,q1,e1,I,j,c1⟩:=zL1 m n (by omega) (by omega) l[h] N w (by omega) (by omega) u;have K:(bQ l[h] kv).length<=h+1:=by have:=zDV l[h] a0;omega
 have N1:=j.1.next
 refine⟨_,H1, ?_,E1,Wd,Ad,As,At,C,L+200,la,is,V,W1,J,q1,bQ l[h] kv,T1,rfl,I,Q.chd c1,c1.nb.trans S,by rw[c1.bd];exact u,by omega,by rw[c1.ws];exact U,K,⟨I.tx.d.okH,by have:=hp.next;omega,fun B p _=> ?_⟩,fun B p=> ?_⟩
 .simp(maxSteps:=999999)(disch:=omega) only[zGm,eZ,v.lnSl,Z,Y,i2,e1,hi1]
 .rw[j.1.keep B (by have:=hp.next;omega) (fun x=>by
   have:=a B (by rcases x with x | x;exact .inl x;exact .inr (.inr x));omega),hp.keep B p (fun x=>x)]
 .have:=hp.next
  rcases p with x | x | x
  .rcases j.2 B (.inl x)with(z | z) | z
   .exact a B (.inl z)
   .exact a B (.inr (.inr z))
   .omega
  .exact a B (.inr (.inl x))
  .exact a B (.inr (.inr x))
theorem zEr (m n:Nat)(hm:400000000<=m)(C:400000000<=n){l:List Sp}(u:SpR A t l)(v: ∀s∈l,s.kd<256)(hl:l.length<=150):
  ∀d i k H0 H,i+d=l.length->d<k->ByI A t F W c i H0 H-> ∃H' a,kL k (zGm (dy (m+2)) n) H0 H=some (.exit 0 [F,W,c, .ptr a 0],H')/\ByI A t F W c l.length [t,F,W,c, .ptr a 0, .int .i64 l.length] H':=by
 intro d
 induction d with
 | zero=>
  intro i k H0 H hi f h;obtain⟨k,rfl⟩: ∃k',k=k'+1:=⟨k - 1,by omega⟩;obtain rfl:i=l.length:=by omega
  obtain⟨E,a,Ad,Z,At,M,L,la,is,V,j,root,q,kv,T,rfl,w,O,Q,S,hL,U,Y,hp,N⟩:=id h;have x:SpR H t l:=Rw.prs u hp;have y: ¬(l.length:Int)< (l.length:Int):=by omega
  refine⟨H,a,kD ?_,h⟩;simp(maxSteps:=999999)(disch:=omega) only[zGm,eZ,x.lnSl,y]
 | succ d ih=>
  intro i k H0 H hi f h;obtain⟨k,rfl⟩: ∃k',k=k'+1:=⟨k - 1,by omega⟩;obtain⟨z,H',e,G⟩:=zHm m n hm C u v (by omega) hl h;obtain⟨I,a,J,K⟩:=ih (i+1) k z H' (by omega) (by omega) G;exact⟨I,a,(wB e).trans J,K⟩
theorem treeByte_walk (m n:Nat)(hm:400000000<=m)(j:400000000<=n)(o:A.ok){l:List Sp}(p:SpR A t l)(G: ∀s∈l,s.kd<256)(f:Int)(S:h<65536)(U:q<256):
  ∃H',f5z (dy (m+2)) n [t, .int .u16 h, .int .i64 f, .int .u8 q] A=some (.bool true,H')/\Prs A H':=by
 have i: ∀A:AH,z13 (dy (m+2)) n [] A=some (.bool true,A):=fun _=>rfl
 obtain⟨b,H,hb⟩:=zIL (dy (m+2)) n (by omega) p
 cases b with
 | true=>
  refine⟨A, ?_,zOJ o⟩;simp(maxSteps:=999999)(disch:=omega) only[f5z,eZ,i,H]
 | false=>
  have hl:=hb rfl;obtain⟨u,x,Ad,y,z,M,V,W,Y,Z,w,F⟩:=zHq (dy (m+2)) n (by omega) o;have hI:ByI A t (.int .u16 h) (.int .i64 f) (.int .u8 q) 0 [t, .int .u16 h, .int .i64 f, .int .u8 q, .ptr x 0, .int .i64 (0:Nat)] u:=
   ⟨⟨512,[],[],fun _=>False,False⟩,x,Ad,y,z,M,0,0,zBT,V,W,pZ,[],[],[],rfl,w,Sty.new,rfl,id,by omega,by simp,by simp,Z,fun B v=>F B (by
    rcases v with v | v | v
    .exact .inr (.inl v)
    .exact .inl v
    .exact .inr (.inr v))⟩
  obtain⟨H2,I,e3,h2⟩:=zEr m n hm j p G hl l.length 0 n _ u (by omega) (by omega) hI;obtain⟨E,J,Ad,y,z,M,L,la,is,V,W,root,a,kv,T,K,w2,N,O,a0,hL,Q,a1,hp,C⟩:=h2;obtain rfl:I=J:=by simpa using K
  obtain⟨H3,e4,p4⟩:=zJl m n hm j f w2 N O Q (by omega) (by omega) S U hp C;refine⟨H3, ?_,p4⟩;simp(maxSteps:=999999)(disch:=omega) only[f5z,eZ,i,H,Y,cq,e3,e4]
end Go.Eng.Sh
end
section
namespace Go.Proofs.YtaaflpnhdkoaeaaGreat.steps13
open Go.ChangeShapes Go.WideShapes Go.ChangeAt Go.RowKit
theorem zDs: Tryz.prog.cellsOf 29=4:=by kernel_rfl
theorem zJi: Tryz.prog.cellsOf 5=1:=by kernel_rfl
theorem zJh: Tryz.prog.cellsOf 3=1:=by kernel_rfl
theorem zDt: Tryz.prog.cellsOf 9=1:=by kernel_rfl
abbrev Raw:=Int×ByteArray×ByteArray×Int
def zDR (s:Raw):List Value:=[.int .u8 s.1, .string s.2.1, .string s.2.2.1, .int .i64 s.2.2.2]
def zEe (s:Raw):Prop:=0<=s.1/\s.1<256
open Go.Eng.Sh (Sp spV SpR)
def zL6 (s:Raw):Sp:=⟨s.1.toNat,s.2.1.data.toList,s.2.2.1.data.toList,s.2.2.2⟩
theorem zNe (N:Nat){s:Raw}(h:zEe s):spV (zL6 s)=(zDR s).map (Go.Eng.cellAV N):=by
 have a:((s.1.toNat:Nat):Int)=s.1:=Int.toNat_of_nonneg h.1;simp only[zDR,yK,List.map_nil,Go.Eng.cellAV_string,spV,zL6,a];rfl
set_option maxRecDepth 100000 in
theorem zL2 {enc:TypeId×Value->f}{x:DataW f×List MemPlace}(w:DataW.trod enc Tryz.prog V h (fun _=>true) U q 29 Y=some x): ∃s:Raw,Y=zDR s/\zEe s:=by
 obtain⟨xs,n,_,_,hl,m,H⟩:=DataW.trod_struct Tryz.underlying29 w;rw[zDs]at hl
 match Y,hl with
 | [c0,c1,c2,c3],_=>
  match xs,m with
  | [y0,y1,y2,y3],_=>
   have k0:DataW.trod enc Tryz.prog V h (fun _=>true) U n 5 [c0]=some y0:=by
    have this:DataW.trod enc Tryz.prog V h (fun _=>true) U n 5 (List.take (Tryz.prog.cellsOf 5) (List.drop 0 [c0,c1,c2,c3]))=some y0:=H 0 _ rfl;rw[zJi]at this;exact this
   have k1:DataW.trod enc Tryz.prog V h (fun _=>true) U n 9 [c1]=some y1:=by
    have this:DataW.trod enc Tryz.prog V h (fun _=>true) U n 9 (List.take (Tryz.prog.cellsOf 9) (List.drop 1 [c0,c1,c2,c3]))=some y1:=H 1 _ rfl;rw[zDt]at this;exact this
   have k2:DataW.trod enc Tryz.prog V h (fun _=>true) U n 9 [c2]=some y2:=by
    have this:DataW.trod enc Tryz.prog V h (fun _=>true) U n 9 (List.take (Tryz.prog.cellsOf 9) (List.drop 2 [c0,c1,c2,c3]))=some y2:=H 2 _ rfl;rw[zDt]at this;exact this
   have k3:DataW.trod enc Tryz.prog V h (fun _=>true) U n 3 [c3]=some y3:=by
    have this:DataW.trod enc Tryz.prog V h (fun _=>true) U n 3 (List.take (Tryz.prog.cellsOf 3) (List.drop 3 [c0,c1,c2,c3]))=some y3:=H 3 _ rfl;rw[zJh]at this;exact this
   clear H w;obtain⟨o,p,_,i⟩:=DataW.trod_int Tryz.underlying5 k0;obtain⟨base,t,_⟩:=DataW.trod_string Tryz.underlying9 k1;obtain⟨u,v,_⟩:=DataW.trod_string Tryz.underlying9 k2;obtain⟨y,z,_⟩:=DataW.trod_int Tryz.underlying3 k3;obtain rfl:=(List.cons.inj p).1;obtain rfl:=(List.cons.inj t).1;obtain rfl:=(List.cons.inj v).1;obtain rfl:=(List.cons.inj z).1;refine⟨(o,base,u,y),rfl, ?_⟩;simp only[Lit.wf,IntKind.min,IntKind.max,IntKind.signed,IntKind.bits,zF,zQ]at i;simp only[zEe];simp at i;omega
instance:Inhabited Raw:=⟨(0, .empty, .empty,0)⟩
set_option maxRecDepth 100000 in
theorem steps_in {enc:TypeId×Value->f}{d:DataW f}{o:List MemPlace}(p: ∃a len cap,j= .slice a len cap)(w:DataW.Trod enc Tryz.prog V h (fun _=>true) U 22 j d o):
  ∃l:List Sp,SpR (Go.Eng.H0 V) (Go.Eng.argAV V.heap.size j) l/\ ∀s∈l,s.kd<256:=by
 obtain⟨z,u,x,rfl⟩:=p;obtain⟨y,q⟩:=w;obtain⟨l,t,i⟩:=Go.Eng.srows_arg (α:=Raw) (k:=4) (by decide) (vals:=zDR) (fun _=>rfl) (good:=zEe) Tryz.underlying22 zDs (fun w=>zL2 w) q;refine⟨l.map zL6, ?_,fun s H=> ?_⟩
 .have e:(l.map zL6).flatMap spV=l.flatMap fun s=>(zDR s).map (Go.Eng.cellAV V.heap.size):=by
   have: ∀l:List Raw,(∀s∈l,zEe s)->(l.map zL6).flatMap spV=l.flatMap fun s=>(zDR s).map (Go.Eng.cellAV V.heap.size):=by
    intro l
    induction l with
    | nil=>intro _;rfl
    | cons s l ih=>
     intro base;rw[yK,qL,qL,zNe V.heap.size (base s (zJ ..)),ih fun s H=>base s (zE _ H)]
   exact this l i
  show Go.Eng.Rw 4 _ _ (l.map zL6).length _;rw[e,jH];exact t
 .obtain⟨r,hr,rfl⟩:=qM.1 H;have:=i r hr;simp only[zL6];simp only[zEe]at this;omega
end Go.Proofs.YtaaflpnhdkoaeaaGreat.steps13
end
section
namespace Go.Proofs.YtaaflpnhdkoaeaaGreat.treeByte
open Go.ChangeShapes Go.WideShapes Go.ChangeAt Go.RowKit
theorem own:ownKnob Tryz.prog.godebug=none:=by kernel_rfl
theorem laid:laidOutB Tryz.prog=true:=by kernel_rfl
set_option maxRecDepth 100000 in
theorem contract (H:Type)(enc:TypeId×Value->H)(W:World)(base:Nat)(args:Array Value)(C Z:List (DataW H))(Q:List MemPlace)
  (f: ∀(j:Nat) t v, Tryz.f5.params[j]? =some t->args[j]? =some v->Value.okWide Tryz.prog W .any base t v)
  (F:DataW.Whole enc Tryz.prog Tryz.f5.params.toList Rows.treeByteSpec.vars false W args.toList C Z Q):
  Calls Tryz.prog 5 args W fun e G=> ∃v,e= .returned v/\Rows.treeByteSpec.post enc Tryz.prog Tryz.f5 false true false false W args v G:=by
 have o:=F;obtain⟨p,q,z,hV,rfl,a1,a2⟩:=F;have i:DataW.TrodAll enc Tryz.prog W 0 (fun _=>true) true Tryz.f5.params.toList args.toList C p:=z;rw[Tryz.params5]at i f;obtain⟨y,a3,d0,a4,I,q0,a0,rfl,rfl,J,r0⟩:=trodAll_cons i;obtain⟨K,a5,d1,a6,p1,q1,rfl,rfl,rfl,h1,r1⟩:=trodAll_cons r0;obtain⟨v2,a7,d2,a8,p2,q2,rfl,rfl,rfl,h2,r2⟩:=trodAll_cons r1;obtain⟨L,a9,d3,b0,p3,q3,rfl,rfl,rfl,h3,r3⟩:=trodAll_cons r2;obtain⟨rfl,rfl,rfl⟩:=trodAll_nil r3;obtain rfl:args= #[y,K,v2,L]:=by cases args;simp_all
 obtain⟨rfl,rfl⟩:=trodVars_none hV;clear z;have T: ∀x∈I,x.block<W.heap.size:=fun x hx=>o.lt x (by simp[hx])
 obtain⟨l,hN,V⟩:=steps13.steps_in (okWide_slice Tryz.underlying22 (f 0 22 y rfl rfl)) J;obtain⟨M,rfl,rfl,rfl,s⟩:=open_int Tryz.underlying53 (f 1 53 K rfl rfl) h1;obtain⟨N,rfl,rfl,rfl,Y⟩:=open_int Tryz.underlying3 (f 2 3 v2 rfl rfl) h2;obtain⟨O,rfl,rfl,rfl,u⟩:=open_int Tryz.underlying5 (f 3 5 L rfl rfl) h3;obtain⟨a,rfl,ha⟩: ∃a:Nat,M=(a:Int)/\a<65536:=by
  simp only[Lit.wf,IntKind.min,IntKind.max,IntKind.signed,IntKind.bits,zF,zQ]at s;simp at s;exact⟨M.toNat,by omega,by omega⟩
 obtain⟨c,rfl,hc⟩: ∃c:Nat,O=(c:Int)/\c<256:=by
  simp only[Lit.wf,IntKind.min,IntKind.max,IntKind.signed,IntKind.bits,zF,zQ]at u;simp at u;exact⟨O.toNat,by omega,by omega⟩
 obtain⟨m,hm⟩: ∃m:Nat,400000000<=m:=⟨_,zP _⟩;obtain⟨H',U,hP⟩:=Go.Eng.Sh.treeByte_walk m (m+2) hm (by omega) (Go.Eng.H0_ok W) hN V N ha hc;have S:=Go.Eng.calls_param (Go.Eng.Sh.f5z_ok (Go.Eng.Sh.dy_ok (m+2)) (m+2)) W (args:= #[y, .int .u16 a, .int .i64 N, .int .u8 c]) (H':=H') U (fun A i=>hP.keep A i (fun x=>x));refine S.mono fun e G ⟨he,hb⟩=> ?_
 subst he;simp only[qW]at o;refine⟨_,rfl,_,_,_,[],I++([]++([]++([]++[]))),[],o, ?_, ?_,rfl,hb.frame _,fun h=>by cases h⟩
 .exact trodAll_cons_mk (shut_bool Tryz.underlying4 _) trodAll_mk0
 .exact trodAll_cons_mk (Below.trod laid (by kernel_rfl) (of_decide_eq_true (by kernel_rfl)) J hb T) (trodAll_cons_mk (shut_int Tryz.underlying53 s) (trodAll_cons_mk (shut_int Tryz.underlying3 Y) (trodAll_cons_mk (shut_int Tryz.underlying5 u) trodAll_mk0)))
set_option maxRecDepth 100000 in
theorem lifted (a:Os)(f:a.Started)(H:Type)(enc:TypeId×Value->H):
  ReturnsInHanded {} Tryz.checked a 5 .any (Rows.treeByteSpec.pre6 enc Tryz.prog Tryz.f5 Rows.treeByteRow.domain false) (Rows.treeByteSpec.post enc Tryz.prog Tryz.f5 false true false false):=by
 refine returnsInHanded_of_change (C:= Tryz.checked) own f (by kernel_rfl) Tryz.func5
  (ChangeSpec.witness6 (enc:=enc) (C:= Tryz.checked) false ⟨#[], #[.slice none 0 0, .int .u16 0, .int .i64 0, .int .u8 0],[]⟩ 8 (by kernel_rfl) (by kernel_rfl) (by kernel_rfl) (by kernel_rfl)) ?_
 intro W base args j m h i o _ _;exact contract H enc W base args j m h i o
theorem holds:Rows.TreeByteSaid:=
 OpenClaim.holds_of_wide 5 Tryz.f5 rfl rfl rfl rfl rfl rfl rfl ⟨rfl,rfl,rfl,rfl,rfl⟩ rfl rfl rfl rfl rfl (by kernel_rfl) Tryz.func5 (by kernel_rfl)
  (of_decide_eq_true (by kernel_rfl)) (by unfold Func.isWrapper;first | (rw[if_pos (by decide+kernel)];kernel_rfl) | (rw[if_neg (by decide+kernel)];exact⟨rfl,rfl⟩))
  (fun f a H enc _=>lifted f a H enc)
end Go.Proofs.YtaaflpnhdkoaeaaGreat.treeByte
namespace Go.Proofs.YtaaflpnhdkoaeaaGreat
theorem treeByte_holds:Rows.TreeByteSaid:=treeByte.holds
end Go.Proofs.YtaaflpnhdkoaeaaGreat
end



