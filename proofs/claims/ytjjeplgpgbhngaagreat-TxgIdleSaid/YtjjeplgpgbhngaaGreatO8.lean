/- A checked evaluator for the program, and what it tells, part 8: no condition. -/
import Derived.Test.YtjjeplgpgbhngaaGreatO7
import Derived.Test.YtjjeplgpgbhngaaGreatRows
import Derived.ProofKit
import Derived.OpenShut
import Derived.Carry
set_option linter.all false
set_option linter.unusedVariables false
set_option linter.unusedSimpArgs false
set_option maxHeartbeats 8000000
set_option maxRecDepth 20000
variable (D:Go.Eng.Dyn)(n:Nat){H:Go.Eng.AH}{h A t q e F G I:Nat}{k B:Go.Nd.Ptr}{i:Nat->Nat}{v:List Go.Nd.Ptr}{w:Go.Eng.AV}{l p:Nat->Prop}{s:Go.Nd.Kvs}{C:Go.Eng.Sh.PN}{E:Go.Eng.Sh.Ev}
section
namespace Go.Eng.Sh
open Go.Nd (Ptr Str Kvs mayP encP ptrOf)
open Go.Bk Go.Bt
structure Stx (N0:Nat)(E:Ev)(H:AH)(St Ad As At M L Lv g la:Nat)(is:Nat->Nat)(x:Str)(V W:Nat->Prop)(root srt:Ptr)(q:PN)(kv:Kvs)(T:List Ptr):Prop where
 tx:TreeX (.ptr Ad 0) .nP E H At M L W root q kv T
 ds:Dsk H Ad As E.nb E.ws la is V
 gS:H.h.get St=some (.cells (stC Ad (.ptr At 0) x (.ptr As 0) g srt Lv) 69 1 false)
 gL: ∃es,H.h.get Lv=some (.map [6] es)
 nS: ¬(W St\/V St)
 nL: ¬(W Lv\/V Lv)
 old:Ad<Lv
 n3: ∀i,is i≠3
 lb:E.ws.length+cnt is 0 E.nb<=1000+g
 xf: ∀B,¬E.x B
 dl:E.dl=[]
 us: ∀r∈T,r.at_≠1->is r.at_.toNat≠0
 fr:N0+2<=Ad/\ ∀B,(W B\/V B\/B=St\/B=Lv)->N0<=B
theorem tnone_ok{x:Str}(a:H.h.get h=some (.cells (stC A (.ptr t 0) x w q k e) 69 1 false)):f30 D n [.ptr h 0] H=some (.bool false,H):=by
 have f:Eng.ld1 (.ptr h 2) H=some (.ptr t 0):=by rw[ld1_get a];rfl
 simp(maxSteps:=999999)(disch:=omega) only[f30,eZ,cq,f]
theorem sync_ok (m n:Nat)(hm:400000000<=m)(hn:400000000<=n){E:Ev}{g la:Nat}{x:Str}(srt:Stx h E H A t q e F G I g la i x l p k B C s v)(hg:g<=1000)(hx:x.length<=476){Er:Prop}{R:(Nat->Nat)->Ws->Ptr->List Ptr->Prop}
  (hw: ∀H1,Prs H H1->(Er/\ ∃As,f37 (dy (m+2)) n [.ptr e 0, .ptr q 0, .int .i64 (g+1:Nat)] H1=some (.tuple [.agg [.int .i64 (0:Nat), .int .i64 (0:Nat), .int .u64 (0:Nat)], .nS, .int .i64 (3:Nat)],As)/\Prs H1 As)\/
   ∃As is root a9 N a O M2 At dr,f37 (dy (m+2)) n [.ptr e 0, .ptr q 0, .int .i64 (g+1:Nat)] H1=some (.tuple [.agg (ptrV a),dr, .int .i64 (0:Nat)],As)/\TreeX (.ptr t 0) .nP { E with ws:=is,dl:=[] } As e M2 G At a [] s O/\Dsk As t q E.nb is a9 root N/\AdT (fun W=>p W\/l W) H1 (fun W=>At W\/N W) As/\Rw 3 As dr 0 []/\(∀L,root L≠3)/\is.length+cnt root 0 E.nb<=1000+g/\(∀r∈O,r.at_≠1->root r.at_.toNat≠0)/\R root is a O):
  ∃H',(Er/\Prs H H'/\ ∃u,f10 (dy (m+2)) n [.ptr A 0] H=some (.tuple [u, .int .i64 (3:Nat)],H'))\/
   ∃is root a9 N a O M2 At dr,f10 (dy (m+2)) n [.ptr A 0] H=some (.tuple [dr, .int .i64 (0:Nat)],H')/\lnSl dr=some (.int .i64 (0:Nat))/\Stx h { E with ws:=is++[((g+1) % 2,ringB (g+1) (encP a++x))],dl:=[] } H' A t q e M2 G I (g+1) a9 (stlS root E.nb) x N At a a [] s O/\R root is a O/\(∃On Nw c4,DkI H' t E.nb (is++[((g+1) % 2,ringB (g+1) (encP a++x))]) On Nw .nS ⟨[],c4,is++[((g+1) % 2,ringB (g+1) (encP a++x))],[]⟩)/\(∀W Lv,H.h.get W=some (.cells Lv 38 1 false)->H'.h.get W=some (.cells Lv 38 1 false))/\(∀W,W<h->H'.h.get W=H.h.get W)/\H.next<=H'.next:=by
 have M:H.ok:=srt.tx.d.okH;have f7:=tnone_ok (dy (m+2)) n srt.gS;have a5:Eng.ld1 (.ptr A 5) H=some (.int .i64 g):=by rw[ld1_get srt.gS];rfl
 have a2:Eng.ld1 (.ptr A 2) H=some (.ptr e 0):=by rw[ld1_get srt.gS];rfl
 have a4:Eng.ld1 (.ptr A 4) H=some (.ptr q 0):=by rw[ld1_get srt.gS];rfl
 have tg: ¬((2147483647:Nat):Int)<=(g:Int):=by omega
 obtain⟨H1,Ac,e1,p1⟩:=copyP_ok (dy (m+2)) n srt.tx (by rw[srt.dl];simp);have j9:=jY p1 M srt.gS;have g0:Eng.ld1 (.ptr A 4) H1=some (.ptr q 0):=by rw[ld1_get j9];rfl
 have ck: ∀K:Rs,chk (some (.ptr q 0)) (.ptr q 0) K=K:=fun K=>chk_ok rfl (by simp[aveq])
 obtain⟨q0,q1,q2,q3,c6,b7,g1,k0,k5,q4,p8,q5,q6⟩:=id srt.ds;obtain⟨As,Bs,e2,p2,lB,c7⟩:=scopy_ok (dy (m+2)) n p1.ok (b7.stp M p1 (fun x=>x));have P2:=p1.trans p2;have c8:=jY P2 M srt.gS;have g2:Eng.ld1 (.ptr A 2) As=some (.ptr e 0):=by rw[ld1_get c8];rfl
 have g4:Eng.ld1 (.ptr A 4) As=some (.ptr q 0):=by rw[ld1_get c8];rfl
 have g6:Eng.ld1 (.ptr A 5) As=some (.int .i64 g):=by rw[ld1_get c8];rfl
 have g7:(g:Int)+((1:Nat):Int)=((g+1:Nat):Int):=by omega
 obtain⟨H3,St,b3,p3,g3,m3,n3⟩:=box p2.ok (.cells [.int .i64 (0:Nat), .int .i64 (0:Nat), .int .u64 (0:Nat)] 38 1 false);have P3:=P2.trans p3;have N1:=p1.next;have N2:=p2.next;have N3:=p3.next
 have k6: ¬(((0:Nat):Int)≠((0:Nat):Int)):=by omega
 have g8: ∀W,(p W\/l W)->W<H.next:=fun W N0=>by
  rcases N0 with N0 | N0
  .exact srt.tx.d.lt W N0
  .exact srt.ds.lt M W N0
 rcases hw H3 P3 with⟨k7,H4,e4,p4⟩ | ⟨H4,is,root,a9,N,a,O,M2,At,dr,e4,b8,c9,kv,k8,h3,q7,k9,hR⟩
 .obtain⟨Q,e5,g5,z,n5⟩:=st_all p4.ok (jY p4 p3.ok g3) (l':=[.int .i64 (0:Nat), .int .i64 (0:Nat), .int .u64 (0:Nat)]) rfl rfl;have d0:stN 3 (.ptr St 0) (.agg [.int .i64 (0:Nat), .int .i64 (0:Nat), .int .u64 (0:Nat)]) H4=some (undefA,Q):=e5;have t30:(((3:Nat):Int)≠((0:Nat):Int))=True:=eq_true (by omega);have N4:=p4.next
  refine⟨Q, .inl ⟨k7,(P3.trans p4).fresh z (fun W j=>by omega), .nS, ?_⟩⟩;simp(maxSteps:=999999)(disch:=omega) only[f10,eZ,pExtract,nth,f7,a5,tg,a2,a4,e1,g0,ck,e2,g2,g4,g6,g7,b3,e4,d0,t30]
 have N4:=kv.1.next
 have h0: ¬(p St\/l St):=fun N0=>by have:=g8 St N0;omega
 have d1:H4.h.get St=some (.cells [.int .i64 (0:Nat), .int .i64 (0:Nat), .int .u64 (0:Nat)] 38 1 false):=(kv.1.keep _ (by omega) h0).trans g3;obtain⟨Q,e5,g5,z,n5⟩:=st_all kv.1.ok d1 (l':=ptrV a) rfl rfl;have d0:stN 3 (.ptr St 0) (.agg (ptrV a)) H4=some (undefA,Q):=e5;have l5:ldN 3 (.ptr St 0) Q=some (.agg (ptrV a)):=ldN_all g5 rfl;have N5:=z.next
 obtain⟨On,Nw,wv,dx,a1,h4,y,_,_,l0,l1,z4,p9⟩:=id c9;have f6: ∀W,(At W\/N W)->W<H.next->p W\/l W:=fun W N0 hl=>by
  rcases kv.2 W N0 with Ad | Ad
  .exact Ad
  .omega
 have l2:=M.lt srt.gS;obtain⟨l3,h5⟩:=srt.gL;have l4:=M.lt h5;have h6: ¬(At A\/N A):=fun N0=>srt.nS (f6 _ N0 l2)
 have b9: ¬(At I\/N I):=fun N0=>srt.nL (f6 _ N0 l4)
 have l6:H4.h.get A=_:=(kv.1.keep _ (by omega) srt.nS).trans (jY P3 M srt.gS);have a7:Q.h.get A=_:=(z.keep _ (by omega) (by omega)).trans l6;have l7:H4.h.get I=_:=(kv.1.keep _ (by omega) srt.nL).trans (jY P3 M h5);have c0:Q.h.get I=_:=(z.keep _ (by omega) (by omega)).trans l7;have b0: ∀W,(At W\/N W)->W≠St:=fun W N0 Ad=>by
  subst Ad;rcases N0 with N0 | N0
  .obtain⟨q8,es',p6,_,d2,_,_,_,_,_,l8⟩:=b8;have gx:H4.h.get W=some (.cells _ 38 1 false):=d1;rcases(l8 W).1 N0 with Ad | Ad | Ad
   .have:=d2.gT;rw[<-Ad,gx]at this;simp at this
   .have:=d2.gM;rw[<-Ad,gx]at this;cases this
   .obtain⟨Lv,e',g',b1⟩:=Grow.get2 d2.dg Ad;rw[gx]at b1;simp at b1
  .have gx:H4.h.get W=some (.cells _ 38 1 false):=d1;rcases(y W).1 N0 with Ad | Ad | Ad | Ad
   .obtain⟨c,gc⟩:=h4.bk;rw[<-Ad,gx]at gc;simp at gc
   .have:=a1.gD;rw[<-Ad,gx]at this;simp at this
   .have:=a1.gN;rw[<-Ad,gx]at this;cases this
   .have:=a1.ow.get Ad;rw[gx]at this;simp at this
 have d3:=kv.1.ok;have b2:DkI Q t E.nb is On Nw wv dx:=a1.stp d3 z (b0 _ (.inr ((y _).2 (.inr (.inl rfl))))) (fun Ad=>by have:=a1.gO;rw[Ad,(kv.1.keep _ (by omega) h0),g3]at this;cases this) (b0 _ (.inr ((y _).2 (.inr (.inr (.inl rfl)))))) (fun W j=>b0 _ (.inr ((y _).2 (.inr (.inr (.inr j))))));have h7:=h4.stp d3 z (b0 _ (.inr ((y _).2 (.inl rfl))));obtain⟨h8,l9,f8,m0,h9,m1,m2,m4,m5,d4,i0⟩:=id b8;have m6:l9=[]:=by
  have:=h9.pq.len;exact zR (by simpa using this)
 subst m6;obtain⟨r1,r2,r3⟩:=d4.rootOk;have j0:is.length<1000000:=by omega
 obtain⟨H6,c4,e6,d6,S⟩:=turn_ok (dy (m+2)) n (by omega) z.ok b2 (by omega) j0 a7 (by omega) r1 r2 hx;obtain⟨c1,c3⟩: ∃c1,c1=is++[((g+1) % 2,ringB (g+1) (encP a++x))]:=⟨_,rfl⟩;rw[<-c3]at d6;have N6:=S.next
 have q9:=a1.oa;have f9:I≠On:=fun Ad=>by have:=srt.old;omega
 obtain⟨k1,k2,k3,k4⟩:=b2.nst a7;have nO: ∀ {Y:Nat} {o:AObj},Q.h.get Y=some o->(∀Lv,o≠ .cells Lv 100 1 false)->(∀Lv,o≠ .map [6] Lv)-> ¬(Y=t\/Y=On\/Y=Nw):=fun {Y o} hY h1 h2 Ad=>by
  rcases Ad with Ad | Ad | Ad
  .rw[Ad,b2.gD]at hY;exact h1 _ (y0 hY).symm
  .rw[Ad,b2.gO]at hY;exact h2 _ (y0 hY).symm
  .rw[Ad,b2.gN]at hY;exact h2 _ (y0 hY).symm
 have i1:H6.h.get A=_:=(S.keep _ (by omega) (fun Ad=>by rcases Ad with Ad | Ad | Ad;exact k1 Ad;exact k2 Ad;exact k3 Ad)).trans a7;have d5:I≠Nw:=fun Ad=>b9 (.inr ((y _).2 (.inr (.inr (.inl Ad)))))
 have e0:I≠t:=fun Ad=>b9 (.inr ((y _).2 (.inr (.inl Ad))))
 have m7:H6.h.get I=_:=(S.keep _ (by omega) (fun Ad=>by rcases Ad with Ad | Ad | Ad;exact e0 Ad;exact f9 Ad;exact d5 Ad)).trans c0;obtain⟨c5,a3⟩:=h7.bk;have m8:=h7.stp z.ok S (nO a3 (by intro Lv N0;simp at N0) (by intro Lv N0;cases N0));have m9:Eng.ld1 (.ptr A 4) H6=some (.ptr q 0):=by rw[ld1_get i1];rfl
 obtain⟨H7,e7,i2,U⟩:=settle_ok m n (by omega) S.ok m8 (by omega);have N7:=U.next
 have b4:A≠q:=fun Ad=>by rw[<-Ad,a7]at a3;simp at a3
 have b5:I≠q:=fun Ad=>by rw[<-Ad,c0]at a3;cases a3
 have e3:H7.h.get A=_:=(U.keep _ (by omega) b4).trans i1;have n0:H7.h.get I=_:=(U.keep _ (by omega) b5).trans m7;have f1: ¬(q=t\/q=On\/q=Nw):=nO a3 (by intro Lv N0;simp at N0) (by intro Lv N0;cases N0);have d7:=d6.stp S.ok U (fun Ad=>f1 (.inl Ad.symm)) (fun Ad=>f1 (.inr (.inl Ad.symm))) (fun Ad=>f1 (.inr (.inr Ad.symm))) (fun W j=>(jZ.1 j).elim);have n1:Eng.ld1 (.ptr A 0) H7=some (.ptr t 0):=by rw[ld1_get e3];rfl
 have eb:=dblocks_ok (dy (m+2)) n d7;obtain⟨cB,n2⟩:=c7.bk;have r0:=c7.lt p2.ok;have i3: ¬(p Bs\/l Bs):=fun N0=>by have:=g8 Bs N0;omega
 have j1:=(c7.stp p2.ok p3 (fun x=>x)).stp p3.ok kv.1 i3;have n4:=(kv.1.keep Bs (by omega) i3).trans (jY p3 p2.ok n2);have j2:=j1.stp d3 z (by omega);have n6:=(z.keep Bs (by omega) (by omega)).trans n4;have j3:=j2.stp z.ok S (nO n6 (by intro Lv N0;simp at N0) (by intro Lv N0;cases N0));have n7:Bs≠q:=fun Ad=>by have:=b7.lt M;omega
 have j4:=j3.stp S.ok U n7;have b6:A≠I:=fun Ad=>by have N0:=a7;rw[Ad,c0]at N0;cases N0
 obtain⟨J,e8,f2,Z⟩:=live_loop (dy (m+2)) n (x6:= .ptr St 0) (x7:=dr) b6 (fun Ad=>b5 Ad.symm) (by omega) E.nb 0 n H7 (by omega) (by omega) U.ok e3 i2 j4 ⟨l3,n0⟩;have N8:=Z.next
 have i4:J.h.get A=_:=(Z.keep _ (by omega) b6).trans e3;have i5:lnSl dr=some (.int .i64 (0:Nat)):=k8.lnSl;have n8:loopK n (f10l2 (dy (m+2)) n) [.ptr A 0, .ptr St 0,dr,dr, .int .i64 (0:Nat), .int .i64 (0:Nat)] J=some (.exit 2 [.ptr A 0, .ptr St 0,dr],J):=by
  obtain⟨n,rfl⟩: ∃V,n=V+1:=⟨n - 1,by omega⟩;exact loop_exit (by simp(maxSteps:=999999)(disch:=omega) only[f10l2,eZ,yA])
 have i6:Q.h.get St=some (.cells (ptrV a) 38 1 false):=g5;have n9:H6.h.get St=_:=(S.keep _ (by omega) (nO i6 (by intro Lv N0;simp at N0) (by intro Lv N0;cases N0))).trans i6;have o0:H7.h.get St=_:=(U.keep _ (by omega) (fun Ad=>by have:=b7.lt M;omega)).trans n9;have o1:J.h.get St=_:=(Z.keep _ (by omega) (by omega)).trans o0;have o2:ldN 3 (.ptr St 0) J=some (.agg (ptrV a)):=ldN_all o1 rfl;have e9:=stN_ok (o:=6) (n:=3) (x:= .agg (ptrV a)) i4 (by decide) rfl rfl (by simp[stC]);have g9:(J.put A (.cells (stC t (.ptr e 0) x (.ptr q 0) g a I) 69 1 false)).h.get A=some (.cells (stC t (.ptr e 0) x (.ptr q 0) g a I) 69 1 false):=by rw[jO,if_pos rfl]
 have i7:stN 3 (.ptr A 6) (.agg (ptrV a)) J=some (undefA,J.put A (.cells (stC t (.ptr e 0) x (.ptr q 0) g a I) 69 1 false)):=e9;have s9:Stp (fun W=>W=A) J (J.put A (.cells (stC t (.ptr e 0) x (.ptr q 0) g a I) 69 1 false)):=(jV Z.ok).put (Z.ok.lt i4) _ (.inr rfl);generalize J.put A (.cells (stC t (.ptr e 0) x (.ptr q 0) g a I) 69 1 false)=H9 at i7 g9 s9;have o3:Eng.ld1 (.ptr A 5) H9=some (.int .i64 g):=by rw[ld1_get g9];rfl
 obtain⟨c2,o4,o5,a8,r4⟩:=st_fld s9.ok g9 (o:=5) (x:= .int .i64 (g+1:Nat)) rfl (by simp[stC]);have j5:c2.h.get A=some (.cells (stC t (.ptr e 0) x (.ptr q 0) (g+1) a I) 69 1 false):=o5;have N9:=s9.next;have r5:=a8.next
 have sZ:Stp (fun W=>W=St\/(W=t\/W=On\/W=Nw)\/W=q\/W=I\/W=A) H4 c2:=⟨a8.ok,by omega,fun W j hS=>by
  rw[a8.keep W (by omega) (fun Ad=>hS (.inr (.inr (.inr (.inr Ad))))),s9.keep W (by omega) (fun Ad=>hS (.inr (.inr (.inr (.inr Ad))))),Z.keep W (by omega) (fun Ad=>hS (.inr (.inr (.inr (.inl Ad))))),U.keep W (by omega) (fun Ad=>hS (.inr (.inr (.inl Ad)))),S.keep W (by omega) (fun Ad=>hS (.inr (.inl Ad))),z.keep W j (fun Ad=>hS (.inl Ad))]⟩
 have d8:=d7.stp U.ok Z (fun Ad=>e0 Ad.symm) (fun Ad=>f9 Ad.symm) (fun Ad=>d5 Ad.symm) (fun W j=>(jZ.1 j).elim);have d9:=d8.stp Z.ok s9 (fun Ad=>k1 Ad.symm) (fun Ad=>k2 Ad.symm) (fun Ad=>k3 Ad.symm) (fun W j=>(jZ.1 j).elim);have f3:=d9.stp s9.ok a8 (fun Ad=>k1 Ad.symm) (fun Ad=>k2 Ad.symm) (fun Ad=>k3 Ad.symm) (fun W j=>(jZ.1 j).elim);have j6:=((i2.stp U.ok Z (fun Ad=>b5 Ad.symm)).stp Z.ok s9 (fun Ad=>b4 Ad.symm)).stp s9.ok a8 (fun Ad=>b4 Ad.symm);have f4:=(b8.dsk c9).1;have j7:TI { E with ws:=c1,dl:=[] } c2 e M2 (.ptr t 0) .nP a [] [] f8 h8:=TI.wr h9 sZ (fun W j Ad=>by
  have a0:At W:=(i0 W).2 (by
   rcases j with N0 | N0 | N0 | ⟨s,o6,_⟩
   .exact .inl N0
   .exact .inr (.inl N0)
   .exact .inr (.inr N0)
   .exact(List.not_mem_nil o6).elim)
  rcases Ad with Ad | (Ad | Ad | Ad) | Ad | Ad | Ad
  .exact b0 W (.inl a0) Ad
  .exact f4 W ((y W).2 (.inr (.inl Ad))) a0
  .subst Ad;have:=(b8.dsk c9).2 W _ _ a1.gO a0;simp at this
  .exact f4 W ((y W).2 (.inr (.inr (.inl Ad)))) a0
  .exact f4 W ((y W).2 (.inl Ad)) a0
  .rw[Ad]at a0;exact b9 (.inl a0)
  .rw[Ad]at a0;exact h6 (.inl a0)) f3
 have o7: ∀r∈O,2<=r.at_:=fun r hr=>by
  obtain⟨nd,hq⟩:=d4.known r hr;rcases Qf_inv hq with⟨srt,_,N0 | N0⟩ | N0
  .simp[lookN]at N0
  .simp[lookN]at N0
  .exact(K_blk N0.2).1
 have j8:RootIs { E with ws:=c1,dl:=[] } [] a s O:=by
  refine RootIs.keep (E:= { E with ws:=is,dl:=[] }) d4 fun r hr=> ?_
  have:=o7 r hr;rw[c3,blkAt_snoc,if_neg (by omega)]
 have cS:=cnt_stl (nb:=E.nb) h3;subst c3;have i8:(is++[((g+1) % 2,ringB (g+1) (encP a++x))]).length=is.length+1:=by simp
 refine⟨c2, .inr ⟨is,root,a9,fun W=>W=q\/W=t\/W=Nw\/Blk .nS W,a,O,M2,At,dr, ?_,i5,⟨⟨h8,[],f8,m0,j7,m1,m2,m4,m5,j8,i0⟩,⟨On,Nw, .nS,_,f3,j6,fun W=>Iff.rfl,k0,k5,l0,l1,⟨?_, ?_⟩, ?_⟩,j5, ?_, ?_, ?_,srt.old,fun L=>(stlS_nz h3 L).2, ?_,srt.xf,rfl, ?_,srt.fr.1, ?_⟩,hR,⟨On,Nw,c4,f3⟩, ?_, ?_, ?_⟩⟩
 .simp(maxSteps:=999999)(disch:=omega) only[f10,eZ,pExtract,nth,f7,a5,tg,a2,a4,e1,g0,ck,e2,g2,g4,g6,g7,b3,e4,d0,k6,l5,e6,m9,e7,n1,eb,e8,f10b4,i5,n8,f10b3,o2,i7,o3,o4]
 .exact fun N0=>z4.1 ((stlS_nz h3 0).1.1 N0)
 .exact fun N0=>z4.2 ((stlS_nz h3 1).1.1 N0)
 .show(is++[((g+1) % 2,ringB (g+1) (encP a++x))]).length+cnt (stlS root E.nb) 0 E.nb<=990000;rw[cS,i8];omega
 .obtain⟨o8,f2⟩:=f2;exact⟨o8,by rw[a8.keep _ (by omega) (fun Ad=>b6 Ad.symm),s9.keep _ (by omega) (fun Ad=>b6 Ad.symm)];exact f2⟩
 .rintro(N0 | N0 | N0 | N0 | N0)
  .exact h6 (.inl N0)
  .exact b4 N0
  .exact k1 N0
  .exact k3 N0
  .exact jZ.1 N0
 .rintro(N0 | N0 | N0 | N0 | N0)
  .exact b9 (.inl N0)
  .exact b5 N0
  .exact e0 N0
  .exact d5 N0
  .exact jZ.1 N0
 .show(is++[((g+1) % 2,ringB (g+1) (encP a++x))]).length+cnt (stlS root E.nb) 0 E.nb<=1000+(g+1);rw[cS,i8];omega
 .exact fun r hr h1 N0=>k9 r hr h1 ((stlS_nz h3 _).1.1 N0)
 .intro W j;have hw: ∀W,(At W\/N W)->h<=W:=fun W N0=>by
   rcases kv.2 W N0 with Ad | Ad
   .exact srt.fr.2 W (by rcases Ad with Ad | Ad;exact .inl Ad;exact .inr (.inl Ad))
   .have:=srt.fr.2 A (.inr (.inr (.inl rfl)));omega
  rcases j with N0 | (N0 | N0 | N0 | N0) | N0 | N0
  .exact hw W (.inl N0)
  .exact hw W (.inr ((y _).2 (.inl N0)))
  .exact hw W (.inr ((y _).2 (.inr (.inl N0))))
  .exact hw W (.inr ((y _).2 (.inr (.inr (.inl N0)))))
  .exact(jZ.1 N0).elim
  .exact srt.fr.2 W (.inr (.inr (.inl N0)))
  .exact srt.fr.2 W (.inr (.inr (.inr N0)))
 .intro W Lv j;have o9:=jY P3 M j;have r6:=M.lt j;have nB: ¬(p W\/l W):=fun N0=>by
   rcases N0 with N0 | N0
   .obtain⟨r7,r8,p7,_,f5,_,_,_,_,_,p0⟩:=srt.tx;rcases(p0 W).1 N0 with Ad | Ad | Ad
    .have:=f5.gT;rw[<-Ad,j]at this;simp at this
    .have:=f5.gM;rw[<-Ad,j]at this;cases this
    .obtain⟨Lv,e',g',b1⟩:=Grow.get2 f5.dg Ad;rw[j]at b1;simp at b1
   .rcases(g1 W).1 N0 with Ad | Ad | Ad | Ad
    .obtain⟨c,gc⟩:=b7.bk;rw[<-Ad,j]at gc;simp at gc
    .have:=c6.gD;rw[<-Ad,j]at this;simp at this
    .have:=c6.gN;rw[<-Ad,j]at this;cases this
    .have:=c6.ow.get Ad;rw[j]at this;simp at this
  have i9:=(kv.1.keep W (by omega) nB).trans o9;have a6:=(z.keep W (by omega) (by omega)).trans i9;have p5:=nO a6 (by intro Lv N0;simp at N0) (by intro Lv N0;cases N0);rw[sZ.keep W (by omega) (fun Ad=>by
   rcases Ad with Ad | Ad | Ad | Ad | Ad
   .omega
   .exact p5 Ad
   .rw[Ad,a3]at a6;simp at a6
   .rw[Ad,c0]at a6;cases a6
   .rw[Ad,a7]at a6;simp at a6)]
  exact i9
 .intro W j;have f:=srt.fr.2;have r9:=f A (.inr (.inr (.inl rfl)));have s0:=f I (.inr (.inr (.inr rfl)));have nB: ¬(p W\/l W):=fun N0=>by
   have:=f W (by rcases N0 with Ad | Ad;exact .inl Ad;exact .inr (.inl Ad));omega
  have s1:=f q (.inr (.inl ((g1 _).2 (.inl rfl))));have s2:h<=Nw:=by
   rcases kv.2 Nw (.inr ((y _).2 (.inr (.inr (.inl rfl)))))with Ad | Ad
   .exact f Nw (by rcases Ad with Ad | Ad;exact .inl Ad;exact .inr (.inl Ad))
   .omega
  have s3:=srt.fr.1;rw[sZ.keep W (by omega) (fun Ad=>by rcases Ad with Ad | (Ad | Ad | Ad) | Ad | Ad | Ad<;>omega),kv.1.keep W (by omega) nB,P3.keep W (by omega) (fun x=>x)]
 .omega
open Go.Nd (Srt mayK putP)
theorem root_ok(j:H.ok){x:Str}(s:H.h.get h=some (.cells (stC A (.ptr t 0) x w q k e) 69 1 false)): ∃H',f11 D n [.ptr h 0] H=some (.agg (ptrV k),H')/\Prs H H':=by
 obtain⟨m,o,b1,a,St,F,G⟩:=box j (.cells [.int .i64 (0:Nat), .int .i64 (0:Nat), .int .u64 (0:Nat)] 38 1 false);have i:=jY a j s;have p:=tnone_ok D n i;have u:ldN 3 (.ptr h 6) m=some (.agg (ptrV k)):=by rw[ldN_ptr i (by simp[stC])];rfl
 obtain⟨f,v,y,z,I⟩:=st_all a.ok St (l':=ptrV k) rfl rfl;have Ad:stN 3 (.ptr o 0) (.agg (ptrV k)) m=some (undefA,f):=v;have C:ldN 3 (.ptr o 0) f=some (.agg (ptrV k)):=ldN_all y rfl;refine⟨f, ?_,a.fresh z fun B J=>by omega⟩;simp(maxSteps:=999999)(disch:=omega) only[f11,eZ,b1,p,u,Ad,C]
theorem group_ok{x:Str}(a:H.h.get h=some (.cells (stC A (.ptr t 0) x w q k e) 69 1 false)):f12 D n [.ptr h 0] H=some (.int .i64 q,H):=by
 have f:=tnone_ok D n a;have i:Eng.ld1 (.ptr h 5) H=some (.int .i64 q):=by rw[ld1_get a];rfl
 simp(maxSteps:=999999)(disch:=omega) only[f12,eZ,cq,f,i]
theorem ttree_ok{x:Str}(a:H.h.get h=some (.cells (stC A (.ptr t 0) x w q k e) 69 1 false)):f8 D n [.ptr h 0] H=some (.ptr t 0,H):=by
 have f:=tnone_ok D n a;have i:Eng.ld1 (.ptr h 2) H=some (.ptr t 0):=by rw[ld1_get a];rfl
 simp(maxSteps:=999999)(disch:=omega) only[f8,eZ,cq,f,i]
theorem left_ok{x:Str}(a:H.h.get h=some (.cells (stC A (.ptr t 0) x (.ptr F 0) q k e) 69 1 false))(St:Spc H F G I i):f13 D n [.ptr h 0] H=some (.int .i64 (cnt i 0 G:Nat),H):=by
 have f:=tnone_ok D n a;have j:Eng.ld1 (.ptr h 4) H=some (.ptr F 0):=by rw[ld1_get a];rfl
 have m:=sfree_ok D n St;simp(maxSteps:=999999)(disch:=omega) only[f13,eZ,cq,f,j,m]
def RingI (a:Ws)(g:Nat)(bd:Str):Prop:=1<=g/\g<=2147483647/\bd.length<=492/\blkZ (g % 2) a=ringB g bd/\(blkZ (1 - g % 2) a=List.replicate 512 0\/ ∃f,2<=g/\f.length<=492/\blkZ (1 - g % 2) a=ringB (g - 1) f)
theorem RingI.new {m:Ws}{bd:Str}(g:RingI m h bd):NewB m h bd:=by
 obtain⟨i,j,h3,a,h5⟩:=g;refine⟨i, ?_⟩;rcases Nat.mod_two_eq_zero_or_one h with e | e
 .rw[e]at a h5;refine⟨h,bd, .inr ⟨h,bd,a,i,j,h3,e, .inl ⟨by omega,rfl,rfl⟩⟩, ?_⟩;rcases h5 with h5 | ⟨f,q1,q2,q3⟩
  .exact .inl ⟨h5,rfl,rfl⟩
  .exact .inr ⟨h - 1,f,q3,by omega,by omega,q2,by omega, .inr ⟨by omega,rfl,rfl⟩⟩
 .rw[e]at a h5;rcases h5 with h5 | ⟨f,q1,q2,q3⟩
  .exact⟨0,[], .inl ⟨h5,rfl,rfl⟩, .inr ⟨h,bd,a,i,j,h3,e, .inl ⟨by omega,rfl,rfl⟩⟩⟩
  .exact⟨h - 1,f, .inr ⟨h - 1,f,q3,by omega,by omega,q2,by omega, .inl ⟨by omega,rfl,rfl⟩⟩, .inr ⟨h,bd,a,i,j,h3,e, .inl ⟨by omega,rfl,rfl⟩⟩⟩
theorem RingI.next {a f:Ws}{bd i:Str}(g:RingI a h bd)(j:blkAt 0 f=blkAt 0 a)(m:blkAt 1 f=blkAt 1 a)(p:h<2147483647)(hb:i.length<=492):RingI (f++[((h+1) % 2,ringB (h+1) i)]) (h+1) i:=by
 obtain⟨q1,q2,q3,o,q⟩:=g;refine⟨by omega,by omega,hb, ?_, .inr ⟨bd,by omega,q3, ?_⟩⟩
 .rw[blkZ,blkAt_snoc,if_pos rfl];rfl
 .rw[blkZ,blkAt_snoc,if_neg (by omega)];have e:1 - (h+1) % 2=h % 2:=by omega
  rw[e,show h+1 - 1=h by omega,<-o];show _=(blkAt (h % 2) a).getD _;rcases Nat.mod_two_eq_zero_or_one h with e | e
  .rw[e,j]
  .rw[e,m]
theorem formatted_ok(i:2000000<=n)(j:H.ok):
  ∃H' A On Nw a,f5 D n [.int .i64 (128:Nat)] H=some (.ptr A 0,H')/\Prs H H'/\H.next<=On/\H.next<=Nw/\DkI H' A 128 [(1,ringB 1 (encP pZ))] On Nw .nS ⟨[],a,[(1,ringB 1 (encP pZ))],[]⟩:=by
 obtain⟨y,A,On,Nw,m,f,z,o,p,q⟩:=dknew_ok D n j (nb:=128) (by omega) (by omega);obtain⟨s,a,t,u,v⟩:=format_ok D n i f.ok q (by omega);have h: ¬(((0:Nat):Int)≠((0:Nat):Int)):=by omega
 refine⟨s,A,On,Nw,a, ?_,f.fresh v (fun B x=>by rcases x with e | e | e | e;omega;omega;omega;exact(jZ.1 e).elim),o,p,u⟩;simp(maxSteps:=999999)(disch:=omega) only[f5,eZ,pExtract,nth,m,h,t]
theorem opened_ok{H':AH}(Ad:f28 D n [.ptr h 0, .int .i64 (0:Nat)] H=some (.tuple [.ptr A 0, .int .i64 (0:Nat)],H')):f6 D n [.ptr h 0, .int .i64 (0:Nat)] H=some (.ptr A 0,H'):=by
 have a: ¬(((0:Nat):Int)≠((0:Nat):Int)):=by omega
 simp(maxSteps:=999999)(disch:=omega) only[f6,eZ,pExtract,nth,Ad,a]
theorem booted_ok{H':AH}(Ad:f46 D n [.ptr h 0] H=some (.tuple [.ptr A 0, .int .i64 (0:Nat)],H')):f16 D n [.ptr h 0] H=some (.ptr A 0,H'):=by
 have a: ¬(((0:Nat):Int)≠((0:Nat):Int)):=by omega
 simp(maxSteps:=999999)(disch:=omega) only[f16,eZ,pExtract,nth,Ad,a]
theorem idle_ok (m n:Nat)(hm:400000000<=m)(hn:400000000<=n){g la:Nat}{x:Str}(root:Stx h E H A t q e F G I g la i x l p k B [] s v)(hg:g<=1000)(hx:x.length<=476):
  ∃H' o Ad a f dr,f10 (dy (m+2)) n [.ptr A 0] H=some (.tuple [dr, .int .i64 (0:Nat)],H')/\lnSl dr=some (.int .i64 (0:Nat))/\Stx h { E with ws:=E.ws++[((g+1) % 2,ringB (g+1) (encP k++x))],dl:=[] } H' A t q e a G I (g+1) o (stlS i E.nb) x Ad f k k [] s v/\(∃On Nw O,DkI H' t E.nb (E.ws++[((g+1) % 2,ringB (g+1) (encP k++x))]) On Nw .nS ⟨[],O,E.ws++[((g+1) % 2,ringB (g+1) (encP k++x))],[]⟩)/\(∀W is,H.h.get W=some (.cells is 38 1 false)->H'.h.get W=some (.cells is 38 1 false))/\(∀W,W<h->H'.h.get W=H.h.get W)/\H.next<=H'.next:=by
 have hr:RootIs E [] k s v:=by obtain⟨_,_,_,_,_,_,_,_,_,hr,_⟩:=root.tx;exact hr
 have Q:k.at_≠1:=by
  have:=hr.rootOk.2.2;exact this
 obtain⟨a1,a2,a3,a4,a5,S,a6,r0⟩:=id root.ds;have L:=root.tx.d.okH;obtain⟨H',St⟩:=sync_ok m n hm hn root hg hx (Er:=False) (R:=fun y z srt J=>y=i/\z=E.ws/\srt=k/\J=v) (fun H1 j=> .inr (by
  have V:TreeX (.ptr t 0) .nP E H1 e F G p k [] s v:=by
   obtain⟨dr,es,last,hc,u,r⟩:=root.tx;exact⟨dr,es,last,hc,u.prs j,r⟩
  have C:=root.ds.prs L j;obtain⟨K,a,f,dr,e2,U,N,f2,At⟩:=write0_ok (dy (m+2)) n V Q (S.stp L j (fun x=>x)) (txg:=g+1) (by omega) (by omega);have M:p e:=by obtain⟨_,_,_,_,_,_,_,_,_,_,hW⟩:=root.tx;exact(hW _).2 (.inl rfl)
  have Y:Dsk K t q E.nb E.ws la i l:=C.stp j.ok N (fun W Lv As=>(V.dsk C).1 W Lv (As▸M)) (fun W ks es g Lv=>by
   obtain⟨_,_,_,_,u,_⟩:=V;rw[Lv,u.gT]at g;cases g)
  rw[root.dl]at At;refine⟨K,E.ws,i,la,l,k,v,a,f,dr,e2,U,Y,⟨N.mono fun W _ As=> .inl (As▸M),fun W Lv=> ?_⟩,At,root.n3,root.lb,root.us,rfl,rfl,rfl,rfl⟩
  .rcases Lv with St | St
   .exact(f2 W St).imp .inl id
   .exact .inl (.inr St)))
 rcases St with⟨St,_⟩ | ⟨z,y,o,Ad,srt,J,a,f,dr,As,hl,s',⟨rfl,rfl,rfl,rfl⟩,hd,hb,Z,a0⟩
 .exact St.elim
 .exact⟨H',o,Ad,a,f,dr,As,hl,s',hd,hb,Z,a0⟩
theorem putP_len (k v:Str): ∀kv:Kvs,(putP k v kv).length<=kv.length+1
 | []=>zK _
 | (a,b)::l=>by
  have:=putP_len k v l;rw[putP];split
  .simp
  .split
   .simp only[zV];omega
   .simp
theorem Stx.prs {f:Nat}{E:Ev}{H H':AH}{St Ad As At M L Lv g la:Nat}{is:Nat->Nat}{x:Str}{V W:Nat->Prop}{root srt:Ptr}{q:PN}{kv:Kvs}{T:List Ptr}(s:Stx f E H St Ad As At M L Lv g la is x V W root srt q kv T)(p:Prs H H'):Stx f E H' St Ad As At M L Lv g la is x V W root srt q kv T:=by
 have a:=s.tx.d.okH;obtain⟨es,h⟩:=s.gL;obtain⟨dr,es',last,i,j,r⟩:=s.tx;exact⟨⟨dr,es',last,i,j.prs p,r⟩,s.ds.prs a p,jY p a s.gS,⟨es,jY p a h⟩,s.nS,s.nL,s.old,s.n3,s.lb,s.xf,s.dl,s.us,s.fr⟩
theorem put_stx (m n:Nat)(hm:300000000<=m)(hn:300000000<=n){g la:Nat}{x:Str}(root:Stx h E H A t q e F G I g la i x l p k B C s v)(hT:dsk v=[])(hL:G<=500000000)(a5:s.length<=1000000)(is srt:Str):
  ∃H' W' j Lv f O u,f9 (dy (m+2)) n [.ptr e 0,S is,S srt] H=some (.int .i64 u,H')/\Stx h E H' A t q e F (G+200) I g la i x l W' j B Lv f O/\dsk O=[]/\f.length<=s.length+1/\(∀V,V<h->H'.h.get V=H.h.get V)/\H.next<=H'.next:=by
 have St:=root.tx.d.okH;have hs:Srt s:=by obtain⟨_,_,_,_,_,_,_,_,_,hr,_⟩:=root.tx;exact hr.srt.1
 obtain⟨H',y,W1,z,e1,t1,a,c1⟩:=putD_ok (k:=is) (v:=srt) m n hm hn root.tx.d hL (by omega);have M:=c1.pm;rw[hT,root.dl,qG]at M;have At:=M.eq_nil;have J:dsk z=[]:=(List.append_eq_nil_iff.1 At).1;have Z:y.dl=[]:=(List.append_eq_nil_iff.1 At).2;have hE:y=E:=by
  obtain⟨W,h2,h3,_⟩:=c1;have h4:=root.dl
  cases E;cases y
  simp only at*
  subst W;subst h2;subst h3;rw[Z,h4]
 subst hE;obtain⟨j,Lv,a0⟩:=t1.x;have Q:=root.tx.dsk root.ds;have a2:=St.lt root.gS;obtain⟨es,U⟩:=root.gL;have a3:=St.lt U;have K: ¬p A:=fun o=>root.nS (.inl o)
 have N: ¬p I:=fun o=>root.nL (.inl o)
 have a4:=root.ds.stp St a.1 (fun V L As=>Q.1 V L As) (fun V ks es hg As=>Q.2 V ks es hg As);have N1:=a.1.next
 have Y: ∀f,f=(if putOkT is srt then putP is srt s else s)->f.length<=s.length+1:=fun f Ad=>by
  rw[Ad];split
  .exact putP_len is srt s
  .omega
 refine⟨H',W1,j,Lv,_,z,_,e1,⟨a0,a4,by rw[a.1.keep _ a2 K];exact root.gS,⟨es,by rw[a.1.keep _ a3 N];exact U⟩, ?_, ?_,root.old,root.n3,root.lb,root.xf,root.dl, ?_,root.fr.1, ?_⟩,J,Y _ rfl,fun V L=> ?_,N1⟩
 .rintro(o | o)
  .rcases a.2 _ o with Ad | Ad
   .exact K Ad
   .omega
  .exact root.nS (.inr o)
 .rintro(o | o)
  .rcases a.2 _ o with Ad | Ad
   .exact N Ad
   .omega
  .exact root.nL (.inr o)
 .intro r hr W;have:r∈dsk z:=dsk_mem.2 ⟨hr,W⟩;rw[J]at this;exact(List.not_mem_nil this).elim
 .intro V L;rcases L with o | o | o | o
  .rcases a.2 _ o with Ad | Ad
   .exact root.fr.2 V (.inl Ad)
   .have:=root.fr.2 A (.inr (.inr (.inl rfl)));omega
  .exact root.fr.2 V (.inr (.inl o))
  .exact root.fr.2 V (.inr (.inr (.inl o)))
  .exact root.fr.2 V (.inr (.inr (.inr o)))
 .refine a.1.keep V ?_ (fun o=> ?_)
  .have:=root.fr.2 A (.inr (.inr (.inl rfl)));omega
  .have:=root.fr.2 V (.inl o);omega
theorem first_ok (m n:Nat)(hm:400000000<=m)(Y:400000000<=n){g la:Nat}{x:Str}(W:Stx h E H A t q e F G I g la i x l p k B C s v)(Z:g<=1000)(hx:x.length<=476)(a0:s.length<=1000000):
  ∃H',(Prs H H'/\ ∃u,f10 (dy (m+2)) n [.ptr A 0] H=some (.tuple [u, .int .i64 (3:Nat)],H'))\/
   ∃a j root y f o z V dr,f10 (dy (m+2)) n [.ptr A 0] H=some (.tuple [dr, .int .i64 (0:Nat)],H')/\Stx h { E with ws:=a++[((g+1) % 2,ringB (g+1) (encP f++x))],dl:=[] } H' A t q e z G I (g+1) root (stlS j E.nb) x y V f f [] s o/\(blkAt 0 a=blkAt 0 E.ws/\blkAt 1 a=blkAt 1 E.ws)/\(∃On Nw N,DkI H' t E.nb (a++[((g+1) % 2,ringB (g+1) (encP f++x))]) On Nw .nS ⟨[],N,a++[((g+1) % 2,ringB (g+1) (encP f++x))],[]⟩)/\(∀is,is<h->H'.h.get is=H.h.get is)/\H.next<=H'.next:=by
 obtain⟨H',St⟩:=sync_ok m n hm Y W Z hx (Er:=True) (R:=fun j a f o=>blkAt 0 a=blkAt 0 E.ws/\blkAt 1 a=blkAt 1 E.ws) (fun H1 p1=>by
  have M:=W.prs p1;obtain⟨a1,a3,a4,a5,a6,a7,a8,_,_,_,_,J,_⟩:=id W.ds;obtain⟨K,St⟩:=write_ok (m+2) n (by omega) (by omega) M.tx M.ds W.us (txg:=g+1) (by omega) (by omega) (by omega);rcases St with⟨_,As,Lv⟩ | ⟨_,a,j,root,y,f,o,z,V,dr,As,O,Q,Ad,a2,At,_⟩
  .exact .inl ⟨trivial,K,As,Lv⟩
  .refine .inr ⟨K,a,j,root,y,f,o,z,V,dr,As,O,Q,a2,by rw[W.dl]at At;exact At,fun L=> ?_, ?_,fun r hr _=>(Ad.used W.us r hr).2,Ad.bk 0 J.1,Ad.bk 1 J.2⟩
   .rcases Ad.up L with As | ⟨_,As⟩
    .rw[As];exact W.n3 L
    .omega
   .have h1:=Ad.ln;have h2:=Ad.ct;have h3:=W.lb;omega)
 rcases St with⟨_,Lv,u,As⟩ | ⟨a,j,root,y,f,o,z,V,dr,As,hl,s',hR,hd,hb,S,U⟩
 .exact⟨H', .inl ⟨Lv,u,As⟩⟩
 .exact⟨H', .inr ⟨a,j,root,y,f,o,z,V,dr,As,s',hR,hd,S,U⟩⟩
def IdI (f:Nat)(St Ad:Nat)(root:Ptr)(g:Nat)(H:AH):Prop:= ∃E As At M L Lv la is V W kv T,Stx f E H St Ad As At M L Lv g la is [] V W root root [] kv T/\E.nb=128/\(∃On Nw a,DkI H Ad 128 E.ws On Nw .nS ⟨[],a,E.ws,[]⟩)/\RingI E.ws g (encP root)
theorem idle_round (m n:Nat)(hm:400000000<=m)(hn:400000000<=n){i:Nat}(p:IdI h A t k q H)(hg:q<=900)(w1:cvI .u64 w=some (.int .u64 F))(w2:bInt .rem (.int .u64 F) (.int .u64 (4:Nat))=some (.int .u64 e))(hc:e<4)(hi:i<e+1):
  ∃H',f3zl1 (dy (m+2)) n [w, .ptr t 0, .ptr A 0, .int .i64 i] H=some (.norm [w, .ptr t 0, .ptr A 0, .int .i64 (i+1:Nat)],H')/\IdI h A t k (q+1) H'/\(∀B,B<h->H'.h.get B=H.h.get B)/\H.next<=H'.next:=by
 obtain⟨E,As,At,M,L,Lv,la,is,V,W,kv,T,s,z,b4,J⟩:=p;have g:=s.tx.d.okH;have b5:RootIs E [] k kv T:=by obtain⟨_,_,_,_,_,_,_,_,_,hr,_⟩:=s.tx;exact hr
 obtain⟨H1,e1,v⟩:=root_ok (dy (m+2)) n g s.gS;obtain⟨H2,X,b2,y,g2,m2,n2⟩:=box v.ok (.cells [.int .i64 (0:Nat), .int .i64 (0:Nat), .int .u64 (0:Nat)] 38 1 false);obtain⟨G,e3,g3,I,n3⟩:=st_all y.ok g2 (l':=ptrV k) rfl rfl;have N:stN 3 (.ptr X 0) (.agg (ptrV k)) H2=some (undefA,G):=e3;have N1:=v.next;have N2:=y.next;have N3:=I.next
 have Ad:Prs H G:=(v.trans y).fresh I fun B St=>by omega
 have t3:=s.prs Ad;obtain⟨_,_,_,_,_,O,_⟩:=id t3.ds;have e4:=group_ok (dy (m+2)) n t3.gS;have e5:=left_ok (dy (m+2)) n t3.gS O;obtain⟨H4,Q,V4,M4,W4,dr,e6,hl,j,S,U,Y,b6⟩:=idle_ok m n hm hn t3 (by omega) (by simp);have C:=U X _ g3;have Z:ldN 3 (.ptr X 0) H4=some (.agg (ptrV k)):=ldN_all C rfl;obtain⟨a,e7,o⟩:=root_ok (dy (m+2)) n j.tx.d.okH j.gS;have a0:ldN 3 (.ptr X 0) a=some (.agg (ptrV k)):=ldN_all (jY o j.tx.d.okH C) rfl;have f:=j.prs o;have e8:=group_ok (dy (m+2)) n f.gS;obtain⟨_,_,_,_,_,a1,_⟩:=id f.ds;have e9:=left_ok (dy (m+2)) n f.gS a1;have a2:f13 (dy (m+2)) n [.ptr A 0] a=some (.int .i64 (cnt is 0 E.nb:Nat),a):=by
  have:=e9;rw[show(cnt (stlS is E.nb) 0 E.nb)=cnt is 0 E.nb from cnt_stl s.n3]at this;exact this
 have a3:=ttree_ok (dy (m+2)) n f.gS;have a4:f14 (dy (m+2)) n [.ptr At 0] a=some (.int .i64 (0:Nat),a):=dirty_ok (dy (m+2)) n f.tx;have hi1:(i:Int)+((1:Nat):Int)=((i+1:Nat):Int):=by omega
 have a5:(q:Int)+((1:Nat):Int)=((q+1:Nat):Int):=by omega
 have a6:(e:Int)+((1:Nat):Int)=((e+1:Nat):Int):=by omega
 have a7:(i:Int)< ((e+1:Nat):Int):=by omega
 have w3:cvI .i64 (.int .u64 e)=some (.int .i64 e):=by
  rw[cvI_int,wrap_i64 (by omega) (by omega)]
 have a8:cmpO .neq (eqA [6,6,10] (.agg (ptrV k)) (.agg (ptrV k)))=some (.bool false):=by rw[eqA_ptr];simp[cmpO,mkB_eq]
 have ck: ∀K:Rs,chk (some (.agg (ptrV k))) (.agg (ptrV k)) K=K:=fun K=>chk_ok rfl (by simp[aveq,aveqL,ptrV,keq_eq,ieq_eq])
 have a9: ¬(((0:Nat):Int)≠((0:Nat):Int)):=by omega
 have b0: ¬(((q+1:Nat):Int)≠((q+1:Nat):Int)):=fun p=>p rfl
 have b1: ¬(((cnt is 0 E.nb:Nat):Int)≠((cnt is 0 E.nb:Nat):Int)):=fun p=>p rfl
 have hz: ∀B,B<h->B<H.next:=fun B St=>by have:=s.fr.2 A (.inr (.inr (.inl rfl)));have:=g.lt s.gS;omega
 refine⟨a, ?_,⟨_,As,At,M4,L,Lv,Q,_,V4,W4,kv,T,f,z, ?_, ?_⟩,fun B St=> ?_, ?_⟩
 .simp(maxSteps:=999999)(disch:=omega) only[f3zl1,eZ,pExtract,nth,w1,w2,w3,a6,a7,e1,b2,N,e4,e5,e6,a9,hl,Z,e7,a0,ck,a8,a5,e8,b0,a2,b1,a3,a4,hi1]
 .obtain⟨On,Nw,b3,d⟩:=S;rw[z]at d;rw[qG]at d⊢;exact⟨On,Nw,b3,d.prs j.tx.d.okH o⟩
 .rw[qG];exact J.next rfl rfl (by omega) (by rw[Nd.encP_length];omega)
 .have:=hz B St;have:=Ad.next
  rw[o.keep B (by omega) (fun x=>x),Y B St,Ad.keep B (by omega) (fun x=>x)]
 .have:=o.next;have:=Ad.next;omega
def LwI (H0:AH)(St Ad i:Nat)(H:AH):Prop:= ∃E As At M L Lv la is V W root srt q kv T,Stx H0.next E H St Ad As At M L Lv 1 la is [] V W root srt q kv T/\dsk T=[]/\L<=200*i/\kv.length<=i/\E.nb=128/\RingI E.ws 1 (encP pZ)/\Prs H0 H
theorem LwI.okH {H0 H:AH}{St Ad i:Nat}(h:LwI H0 St Ad i H):H.ok:=by
 obtain⟨E,As,At,M,L,Lv,la,is,V,W,root,srt,q,kv,T,s,_⟩:=h;exact s.tx.d.okH
theorem put_loop (m n:Nat)(hm:400000000<=m)(hn:400000000<=n){v1:AV}{l:List Str}(v:Strs H w l)(hl:l.length<=60) :
  ∀d i k (H0:AH),i+d=l.length->d<k->LwI H h A i H0-> ∃H',(loopK k (f3zl0 (dy (m+2)) n) [w,v1, .ptr A 0, .ptr h 0, .int .i64 i] H0=some (.ret (.bool true),H')/\Prs H H')\/(loopK k (f3zl0 (dy (m+2)) n) [w,v1, .ptr A 0, .ptr h 0, .int .i64 i] H0=some (.exit 0 [v1, .ptr A 0, .ptr h 0],H')/\LwI H h A l.length H'):=by
 intro d
 induction d with
 | zero=>
  intro i k H0 hi I a;obtain⟨k,rfl⟩: ∃k',k=k'+1:=⟨k - 1,by omega⟩;have f:Prs H H0:=by
   obtain⟨E,As,At,M,L,Lv,la,is,V,W,root,srt,q,kv,T,s,_,_,_,_,_,p⟩:=a;exact p
  have j:lnSl w=some (.int .i64 l.length):=v.lnSl;have o: ¬(i:Int)< (l.length:Int):=by omega
  have:i=l.length:=by omega
  refine⟨H0, .inr ⟨loop_exit ?_,this▸a⟩⟩;simp(maxSteps:=999999)(disch:=omega) only[f3zl0,eZ,j,o]
 | succ d ih=>
  intro i k H0 hi I a;obtain⟨k,rfl⟩: ∃k',k=k'+1:=⟨k - 1,by omega⟩;obtain⟨E,As,At,M,L,Lv,la,is,V,W,root,srt,q,kv,T,s,hT,hL,a3,J,N,f⟩:=a;have hk:=s.tx.d.okH;have j:lnSl w=some (.int .i64 l.length):=v.lnSl;have O:i<l.length:=by omega
  have o:(i:Int)< (l.length:Int):=by omega
  have hi1:(i:Int)+((1:Nat):Int)=((i+1:Nat):Int):=by omega
  obtain⟨p,i1,z⟩:=Strs.at (v.prs f) O;have y:=i1 .i64 _ rfl;by_cases a2:1000< (l[i]).length
  .have hb:((1000:Nat):Int)< (((l[i]).length:Nat):Int):=by omega
   refine⟨H0, .inl ⟨loop_ret ?_,f⟩⟩;simp(maxSteps:=999999)(disch:=omega) only[f3zl0,eZ,j,o,y,z,lnStr_S,hb]
  .have hb: ¬((1000:Nat):Int)< (((l[i]).length:Nat):Int):=by omega
   have e3:=ttree_ok (dy (m+2)) n s.gS;have ck: ∀K:Rs,chk (some (S l[i])) (S l[i]) K=K:=fun K=>chk_ok rfl (aveq_S _)
   obtain⟨t,W1,G,q1,Q,T1,u,e4,C,U,a4,Y,Z⟩:=put_stx m n (by omega) (by omega) s hT (by omega) (by omega) l[i] [118];have a0:f9 (dy (m+2)) n [.ptr At 0,S l[i], .str 1 118] H0=some (.int .i64 u,t):=e4;have a1:Prs H t:=⟨C.tx.d.okH,qP f.next Z,fun B F _=>by rw[Y B F,f.keep B F (fun x=>x)]⟩
   obtain⟨H2,h2⟩:=ih (i+1) k t (by omega) (by omega) ⟨E,As,At,M,L+200,Lv,la,is,V,W1,G,srt,q1,Q,T1,C,U,by omega,by omega,J,N,a1⟩;have hs:f3zl0 (dy (m+2)) n [w,v1, .ptr A 0, .ptr h 0, .int .i64 i] H0=some (.norm [w,v1, .ptr A 0, .ptr h 0, .int .i64 (i+1:Nat)],t):=by
    simp(maxSteps:=999999)(disch:=omega) only[f3zl0,eZ,j,o,y,z,lnStr_S,hb,e3,ck,a0,hi1]
   refine⟨H2, ?_⟩;rw[loop_next hs];exact h2
theorem idle_loop (m n:Nat)(hm:400000000<=m)(St:400000000<=n)(f:cvI .u64 w=some (.int .u64 e))(j:bInt .rem (.int .u64 e) (.int .u64 (4:Nat))=some (.int .u64 q))(v:q<4):
  ∀d i c (H:AH),i+d=q+1->d<c->IdI h A t k (2+i) H-> ∃H',loopK c (f3zl1 (dy (m+2)) n) [w, .ptr t 0, .ptr A 0, .int .i64 i] H=some (.exit 2 [.ptr t 0, .ptr A 0],H')/\IdI h A t k (2+(q+1)) H'/\(∀B,B<h->H'.h.get B=H.h.get B)/\H.next<=H'.next:=by
 intro d
 induction d with
 | zero=>
  intro i c H hi p a;obtain⟨c,rfl⟩: ∃k',c=k'+1:=⟨c - 1,by omega⟩;have Ad: ¬(i:Int)< ((q+1:Nat):Int):=by omega
  have s:(q:Int)+((1:Nat):Int)=((q+1:Nat):Int):=by omega
  have x:cvI .i64 (.int .u64 q)=some (.int .i64 q):=by
   rw[cvI_int,wrap_i64 (by omega) (by omega)]
  have:i=q+1:=by omega
  refine⟨H,loop_exit ?_,this▸a,fun _ _=>rfl,zK _⟩;simp(maxSteps:=999999)(disch:=omega) only[f3zl1,eZ,f,j,x,s,Ad]
 | succ d ih=>
  intro i c H hi p a;obtain⟨c,rfl⟩: ∃k',c=k'+1:=⟨c - 1,by omega⟩;obtain⟨y,z,C,F,L⟩:=idle_round m n hm St a (by omega) f j v (i:=i) (by omega);obtain⟨G,I,J,K,M⟩:=ih (i+1) c y (by omega) (by omega) (by rw[show 2+(i+1)=2+i+1 by omega];exact C);exact⟨G,by rw[loop_next z];exact I,J,fun B o=>by rw[K B o,F B o],by omega⟩
theorem end_ok (m n:Nat)(hm:400000000<=m)(hn:400000000<=n){H0:AH}{g:Nat}{root:Ptr}(St:IdI H.next h A root g H0)(I:Prs H H0):
  ∃H',f3zb2 (dy (m+2)) n [.ptr A 0, .ptr h 0] H0=some (.ret (.bool true),H')/\Prs H H':=by
 obtain⟨E,As,At,M,L,Lv,la,is,V,W,kv,T,s,C,⟨On,Nw,a2,d⟩,N⟩:=St;have v:=s.tx.d.okH;have y:RootIs E [] root kv T:=by obtain⟨_,_,_,_,_,_,_,_,_,hr,_⟩:=s.tx;exact hr
 obtain⟨k1,k2,k3,k4⟩:=d.nst s.gS;have a3:H.next<=Nw:=by
  obtain⟨a4,O,a5,a6,Q,_,hV,_⟩:=s.ds;have i:=d.gD;have j:=Q.gD;rw[i]at j;have:Nw=O:=by simp at j;exact j.2.2.2
  subst this;exact s.fr.2 Nw (.inr (.inl ((hV _).2 (.inr (.inr (.inl rfl))))))
 have a7:=s.fr.1;obtain⟨H1,e1,d1,o⟩:=fail_ok (dy (m+2)) n (by omega) v d;have S:H1.h.get h=_:=(o.keep _ (v.lt s.gS) (fun e=>by rcases e with e | e;exact k1 e;exact k3 e)).trans s.gS;obtain⟨H2,Ad,a8,a9,a1,e2,p,d2,_,_,_⟩:=boot_ok (dy (m+2)) n o.ok d1;have U:=booted_ok (dy (m+2)) n e2;have z: ∀r∈T,∃q,E.K r=some q:=fun r hr=>by
  obtain⟨q,hq⟩:=y.known r hr;rcases Qf_inv hq with⟨s,_,St | St⟩ | St
  .simp[lookN]at St
  .simp[lookN]at St
  .exact⟨q,St.2⟩
 have J:(T.map fun r=>r.at_.toNat).Nodup:=map_nodup y.nodup fun a ha b hb e=>by
  obtain⟨q,i⟩:=z a ha;obtain⟨b0,j⟩:=z b hb;exact K_eq i j e
 have hb: ∀r∈T,2<=r.at_/\r.at_.toNat<E.nb:=fun r hr=>by
  obtain⟨q,i⟩:=z r hr;exact K_blk i
 have hl:T.length<=8192:=by
  have:=nodup_le (m:=List.range E.nb) J (fun k v=>by
   obtain⟨r,hr,rfl⟩:=qM.1 v;exact List.mem_range.2 (hb r hr).2)
  rw[jC,List.length_range,C]at this;omega
 obtain⟨H3,S2,b1,M2,W2,b2,b3,e3,t,_,_,F,_⟩:=topen_ok m n hm (by omega) s.xf p.ok (E:=E) (by rw[C];exact d2) (by omega) (by omega) (x:=[]) (g:=g) (root:=root) (kv:=kv) (T:=T) (by rw[qG];exact N.new) (RootIs.keep (ws':=E.ws) (dl':=[]) y fun _ _=>rfl) J hb hl;have Y:=opened_ok (dy (m+2)) n e3;obtain⟨H4,e4,f⟩:=root_ok (dy (m+2)) n t.ok F;have G:=jY (t.trans f) p.ok (jY p o.ok S);obtain⟨H5,e5,u⟩:=root_ok (dy (m+2)) n f.ok G;have e6:=group_ok (dy (m+2)) n (jY (f.trans u) t.ok F);have e7:=group_ok (dy (m+2)) n (jY u f.ok G);have Z:cmpO .eql (eqA [6,6,10] (.agg (ptrV root)) (.agg (ptrV root)))=some (.bool true):=by rw[eqA_ptr];simp[cmpO,mkB_eq]
 have a0: ¬(((0:Nat):Int)≠((0:Nat):Int)):=by omega
 have N2:=p.next;have N3:=t.next;have N4:=f.next;have N5:=u.next;have N1:=o.next;have NP:=I.next
 refine⟨H5, ?_,⟨u.ok,by omega,fun B hB _=> ?_⟩⟩
 .simp(maxSteps:=999999)(disch:=omega) only[f3zb2,eZ,pExtract,nth,cq,e1,a0,U,Y,e4,e5,Z,e6,e7]
 .rw[u.keep B (by omega) (fun x=>x),f.keep B (by omega) (fun x=>x),t.keep B (by omega) (fun x=>x),p.keep B (by omega) (fun x=>x),o.keep B (by omega) (fun e=>by rcases e with e | e<;>omega),I.keep B hB (fun x=>x)]
theorem begin_ok (m n:Nat)(hm:400000000<=m)(hn:400000000<=n)(N:H.ok):
  ∃j o Ad St,f5 (dy (m+2)) n [.int .i64 (128:Nat)] H=some (.ptr Ad 0,j)/\f6 (dy (m+2)) n [.ptr Ad 0, .int .i64 (0:Nat)] j=some (.ptr St 0,o)/\LwI H St Ad 0 o/\Prs H o:=by
 obtain⟨j,Ad,On,Nw,I,O,a,a1,a2,Q⟩:=formatted_ok (dy (m+2)) n (by omega) N;obtain⟨E,f⟩: ∃E:Ev,E=⟨128,[(1,ringB 1 (encP pZ))],[],fun _=>False⟩:=⟨_,rfl⟩;have v:RingI E.ws 1 (encP pZ):=by
  subst f;exact⟨by omega,by omega,by rw[Nd.encP_length];omega,rfl, .inl rfl⟩
 have hd:DkI j Ad E.nb E.ws On Nw .nS ⟨[],I,E.ws,[]⟩:=by subst f;exact Q
 have J:E.nb=128:=by subst f;rfl
 have s:E.dl=[]:=by subst f;rfl
 have y: ∀B,¬E.x B:=by subst f;exact fun _ h=>h
 have Z:E.ws.length=1:=by subst f;rfl
 have hr:RootIs { E with dl:=[] } [] pZ [] []:= .inl ⟨rfl,rfl,rfl⟩;obtain⟨o,St,At,M,W,As,Lv,S,t,z,C,u,p,fr,w1,U,V⟩:=topen_ok m n hm (by omega) y a.ok (E:=E) hd (by omega) (by omega) (x:=[]) (g:=1) (root:=pZ) (kv:=[]) (T:=[]) (by rw[qG];exact v.new) hr (by simp) (by simp) (by simp);have K: { E with dl:=[] } =E:=by cases E;simp only at s;rw[s]
 rw[K]at z;have F:=hd.prs a.ok t;obtain⟨k1,k2,k3,k4⟩:=F.nst u;obtain⟨c,q⟩:=C.bk;have L:St≠As:=fun e=>by rw[<-e,u]at q;simp at q
 have a0:=a.ok.lt hd.gD;have a3:=a.ok.lt hd.gN;have fL:=fr Lv (.inr (.inr (.inr rfl)));have fA:=fr As (.inr (.inl rfl));have fS:=fr St (.inr (.inr (.inl rfl)));have N1:=a.next
 have oa:=hd.oa;have a4:=cnt_le (mrkS newS []) 0 E.nb;have G: ∀i,i<2->mrkS newS [] i≠0:=fun i hi=>by rw[mrkS_nil];simp only[newS];rw[if_pos hi];omega
 refine⟨j,o,Ad,St,O,opened_ok (dy (m+2)) n S,⟨E,As,At,M,0,Lv,0,mrkS newS [],fun B=>B=As\/B=Ad\/B=Nw\/Blk .nS B,W,pZ,pZ,[],[],[],⟨z,⟨On,Nw, .nS,_,F,C,fun B=>Iff.rfl,by omega,by omega,by omega, .inr rfl,⟨G 0 (by omega),G 1 (by omega)⟩,by omega⟩,u,p, ?_, ?_,by omega,fun i=> ?_,by omega,y,s,by simp,by omega,fun B Y=> ?_⟩,rfl,by omega,by simp,J,v,a.trans t⟩,a.trans t⟩
 .rintro(h | h | h | h | h)
  .exact U h
  .exact L h
  .exact k1 h
  .exact k3 h
  .exact jZ.1 h
 .rintro(h | h | h | h | h)
  .exact V h
  .obtain⟨es,p⟩:=p;rw[<-h,p]at q;cases q
  .omega
  .omega
  .exact jZ.1 h
 .rw[mrkS_nil];simp only[newS];split<;>omega
 .rcases Y with h | (h | h | h | h) | h | h
  .have:=fr B (.inl h);omega
  .omega
  .omega
  .omega
  .exact(jZ.1 h).elim
  .omega
  .omega
theorem txgIdle_walk (m n:Nat)(hm:400000000<=m)(f:400000000<=n)(hk:H.ok){l:List Str}(O:Strs H w l)(z:Int):
  ∃H',f3z (dy (m+2)) n [w, .int .i64 z] H=some (.bool true,H')/\Prs H H':=by
 have h: ∀H0:AH,z7 (dy (m+2)) n [] H0=some (.bool true,H0):=fun _=>rfl
 obtain⟨H1,Q,Ad,St,j,o,hI,p2⟩:=begin_ok m n hm f hk;have i:lnSl w=some (.int .i64 l.length):=O.lnSl;by_cases a6:60<l.length
 .have t:((60:Nat):Int)< (l.length:Int):=by omega
  refine⟨Q, ?_,p2⟩;simp(maxSteps:=999999)(disch:=omega) only[f3z,eZ,cq,j,o,h,i,t]
 have t: ¬((60:Nat):Int)< (l.length:Int):=by omega
 obtain⟨S,h3⟩:=put_loop m n hm f O (by omega) (v1:= .int .i64 z) l.length 0 n Q (by omega) (by omega) hI;rcases h3 with⟨p,p3⟩ | ⟨p,Y⟩
 .refine⟨S, ?_,p3⟩;simp(maxSteps:=999999)(disch:=omega) only[f3z,eZ,cq,j,o,h,i,t,p]
 obtain⟨E,As,At,M,L,Lv,la,is,V,W,root,srt,q,kv,T,s,hT,hL,a7,J,Z,v⟩:=Y;have a8: ∀B,B<H.next->B<S.next:=fun B a=>by have:=v.next;omega
 obtain⟨y,h4⟩:=first_ok m n hm f s (by omega) (by simp) (by omega);rcases h4 with⟨p4,u,G⟩ | ⟨a9,b0,a0,V2,U,T2,M2,W2,dr,G,I,⟨q0,q1⟩,C,a1,b1⟩
 .have t30:(((3:Nat):Int)≠((0:Nat):Int))=True:=eq_true (by omega);refine⟨y, ?_,v.trans p4⟩;simp(maxSteps:=999999)(disch:=omega) only[f3z,eZ,pExtract,nth,cq,j,o,h,i,t,p,f3zb3,G,t30]
 .obtain⟨u,hu⟩: ∃u:Nat,u=(z % 18446744073709551616).toNat:=⟨_,rfl⟩;have hz:z % 18446744073709551616=(u:Int):=by rw[hu];omega
  have w1:cvI .u64 (.int .i64 z)=some (.int .u64 u):=by rw[cvI_int,wrap_u64,hz]
  have w2:bInt .rem (.int .u64 u) (.int .u64 (4:Nat))=some (.int .u64 (u % 4:Nat)):=by
   rw[bInt_rem _ _ _ (by omega)];congr 2
  have K:Prs H y:=⟨I.tx.d.okH,by have:=v.next;omega,fun B a _=>by rw[a1 B a,v.keep B a (fun x=>x)]⟩
  rw[qG]at I C;have a2:IdI H.next St Ad U (2+0) y:=⟨_,As,At,M2,L,Lv,a0,_,V2,W2,kv,T2,I,J,by rw[J]at C;exact C,Z.next q0 q1 (by omega) (by rw[Nd.encP_length];omega)⟩
  obtain⟨H5,e5,N,a3,b2⟩:=idle_loop m n hm f w1 w2 (by omega) (u % 4+1) 0 n y (by omega) (by omega) a2;have a4:Prs H H5:=by
   obtain⟨E5,b3,b4,M5,L5,b5,b6,b7,V5,W5,b8,T5,s5,_⟩:=id N;exact⟨s5.tx.d.okH,by have:=K.next;omega,fun B a _=>by rw[a3 B a,K.keep B a (fun x=>x)]⟩
  obtain⟨H6,e6,p6⟩:=end_ok m n hm f N a4;have a5: ¬(((0:Nat):Int)≠((0:Nat):Int)):=by omega
  refine⟨H6, ?_,p6⟩;simp(maxSteps:=999999)(disch:=omega) only[f3z,eZ,pExtract,nth,cq,j,o,h,i,t,p,f3zb3,G,a5,e5,e6]
end Go.Eng.Sh
end
section
namespace Go.Proofs.YtjjeplgpgbhngaaGreat.txgIdle
open Go.ChangeShapes Go.WideShapes Go.ChangeAt Go.RowKit
theorem cellsOfS: Tryz.prog.cellsOf 9=1:=by kernel_rfl
theorem strs_in {H:Type}{enc:TypeId×Value->H}{w:World}{f:Bool}{v:Value}{d:DataW H}{i:List MemPlace}(j: ∃a len cap,v= .slice a len cap)(base:DataW.Trod enc Tryz.prog w h (fun _=>true) f 22 v d i):
  ∃l:List Go.Eng.Str,Go.Eng.Strs (Go.Eng.H0 w) (Go.Eng.argAV w.heap.size v) l:=by
 obtain⟨s,o,p,rfl⟩:=j;obtain⟨q,m⟩:=base;exact Go.Eng.strs_arg Tryz.underlying22 Tryz.underlying9 cellsOfS m
theorem own:ownKnob Tryz.prog.godebug=none:=by kernel_rfl
theorem laid:laidOutB Tryz.prog=true:=by kernel_rfl
set_option maxRecDepth 100000 in
theorem contract (H:Type)(enc:TypeId×Value->H)(W:World)(base:Nat)(args:Array Value)(ds L:List (DataW H))(G:List MemPlace)
  (f: ∀(j:Nat) t v, Tryz.f3.params[j]? =some t->args[j]? =some v->Value.okWide Tryz.prog W .any base t v)
  (u:DataW.Whole enc Tryz.prog Tryz.f3.params.toList Rows.txgIdleSpec.vars false W args.toList ds L G):
  Calls Tryz.prog 3 args W fun e y=> ∃v,e= .returned v/\Rows.txgIdleSpec.post enc Tryz.prog Tryz.f3 false true false false W args v y:=by
 have i:=u;obtain⟨p,q,s,M,rfl,a0,a1⟩:=u;have a:DataW.TrodAll enc Tryz.prog W 0 (fun _=>true) true Tryz.f3.params.toList args.toList ds p:=s;rw[Tryz.params3]at a f;obtain⟨o,a2,d0,a3,C,q0,Z,rfl,rfl,F,N⟩:=trodAll_cons a;obtain⟨v1,a4,d1,a5,p1,q1,rfl,rfl,rfl,O,Q⟩:=trodAll_cons N;obtain⟨rfl,rfl,rfl⟩:=trodAll_nil Q;obtain rfl:args= #[o,v1]:=by cases args;simp_all
 obtain⟨rfl,rfl⟩:=trodVars_none M;clear s;have J: ∀x∈C,x.block<W.heap.size:=fun x S=>i.lt x (by simp[S])
 obtain⟨l,T⟩:=strs_in (okWide_slice Tryz.underlying22 (f 0 22 o rfl rfl)) F;obtain⟨z,rfl,rfl,rfl,U⟩:=open_int Tryz.underlying3 (f 1 3 v1 rfl rfl) O;obtain⟨m,hm⟩: ∃m:Nat,400000000<=m:=⟨_,zK _⟩;obtain⟨H',K,V⟩:=Go.Eng.Sh.txgIdle_walk m (m+2) hm (by omega) (Go.Eng.H0_ok W) T z;have I:=Go.Eng.calls_param (Go.Eng.Sh.f3z_ok (Go.Eng.Sh.dy_ok (m+2)) (m+2)) W (args:= #[o, .int .i64 z]) (H':=H') K (fun A a=>V.keep A a (fun x=>x));refine I.mono fun e y ⟨Y,hb⟩=> ?_
 subst Y;simp only[qG]at i;refine⟨_,rfl,_,_,_,[],C++([]++[]),[],i, ?_, ?_,rfl,hb.frame _,fun h=>by cases h⟩
 .exact trodAll_cons_mk (shut_bool Tryz.underlying4 _) trodAll_mk0
 .exact trodAll_cons_mk (Below.trod laid (by kernel_rfl) (of_decide_eq_true (by kernel_rfl)) F hb J) (trodAll_cons_mk (shut_int Tryz.underlying3 U) trodAll_mk0)
set_option maxRecDepth 100000 in
theorem lifted (a:Os)(f:a.Started)(H:Type)(enc:TypeId×Value->H):
  ReturnsInHanded {} Tryz.checked a 3 .any (Rows.txgIdleSpec.pre6 enc Tryz.prog Tryz.f3 Rows.txgIdleRow.domain false) (Rows.txgIdleSpec.post enc Tryz.prog Tryz.f3 false true false false):=by
 refine returnsInHanded_of_change (C:= Tryz.checked) own f (by kernel_rfl) Tryz.func3
  (ChangeSpec.witness6 (enc:=enc) (C:= Tryz.checked) false ⟨#[], #[.slice none 0 0, .int .i64 0],[]⟩ 8 (by kernel_rfl) (by kernel_rfl) (by kernel_rfl) (by kernel_rfl)) ?_
 intro W base args ds j h i m _ _;exact contract H enc W base args ds j h i m
theorem holds:Rows.TxgIdleSaid:=
 OpenClaim.holds_of_wide 3 Tryz.f3 rfl rfl rfl rfl rfl rfl rfl ⟨rfl,rfl,rfl,rfl,rfl⟩ rfl rfl rfl rfl rfl (by kernel_rfl) Tryz.func3 (by kernel_rfl)
  (of_decide_eq_true (by kernel_rfl)) (by unfold Func.isWrapper;first | (rw[if_pos (by decide+kernel)];kernel_rfl) | (rw[if_neg (by decide+kernel)];exact⟨rfl,rfl⟩))
  (fun f a H enc _=>lifted f a H enc)
end Go.Proofs.YtjjeplgpgbhngaaGreat.txgIdle
namespace Go.Proofs.YtjjeplgpgbhngaaGreat
theorem txgIdle_holds:Rows.TxgIdleSaid:=txgIdle.holds
end Go.Proofs.YtjjeplgpgbhngaaGreat
end



