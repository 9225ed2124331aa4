/- A checked evaluator for the program, and what it tells, part 7: no condition. -/
import Derived.Test.YtjjeplgpgbhngaaGreatO6
set_option linter.all false
set_option linter.unusedVariables false
set_option linter.unusedSimpArgs false
set_option maxHeartbeats 8000000
set_option maxRecDepth 20000
variable (D:Go.Eng.Dyn)(n:Nat){H A t C J Q U V f j:Nat}{h Y:Go.Eng.AH}{k M:Nat->Nat}{i R:List Go.Nd.Ptr}{v F z:Nat->Prop}{w r:Go.Nd.Ptr}{l:List (Go.Eng.AV×Go.Eng.AV)}{p P g:Go.Eng.AV}{q:Go.Eng.Sh.Ev}{e:Go.Nd.Node}{s:Go.Eng.Sh.PN}{B m:Go.Bk.Ws}{E:Go.Nd.Kvs}{G:Go.Nd.Ptr->Option Go.Nd.Node}{I:List Go.Eng.AV}{L:Go.Eng.Sh.Dx}{N:Nat->Go.Eng.AH->Prop}{W:Bool}{a:Go.Eng.AH->Prop}{c:List Int}{u:Go.Nd.Str}
section
namespace Go.Eng.Sh
open Go.Nd (Ptr Str)
open Go.Bk
theorem Pend.old {H:AH} : ∀ {es:List (AV×AV)} {q:PN},Pend H es q-> ∀kv∈es,∀B,blkN kv.2 B->B<H.next
 | [],[],_=>fun _ h=>by simp at h
 | (k,v)::es,(s,nd)::q,h=>fun kv a B f=>by
  rcases zM.1 a with rfl | a
  .exact h.1.2.lt f
  .exact Pend.old h.2 kv a B f
 | [],_::_,h=>h.elim
 | _::_,[],h=>h.elim
theorem Wr.old {E:Ev}{H:AH}{f As At M Ad:Nat}{c:AV}{txg left la:Nat}{is:Nat->Nat}{root:Ptr}{es:List (AV×AV)}{q:PN}{last:Nat}{dr:AV}{Z P:Nat->Prop}(w:Wr E H f As At M Ad c txg left la is root es q last dr Z P): ∀B,P B->B<H.next:=fun B h=>by
 rcases(w.pa B).1 h with rfl | rfl | e | ⟨kv,a,e⟩
 .exact w.ti.ok.lt w.ti.gT
 .exact w.ti.ok.lt w.ti.gM
 .exact w.ti.dg.lt e
 .exact w.ti.pq.old kv a B e
theorem Spc.bk (nb:Spc h H A t k): ∃c,h.h.get H=some (.cells c 137 1 false):=by
 obtain⟨c,g,_⟩:=nb;exact⟨c,g⟩
theorem ne_of_get {o p:AObj}(B:h.h.get H=some o)(k:h.h.get A=some p)(e:o≠p):H≠A:=fun x=>by
 rw[x,k]at B;exact e (y0 B).symm
theorem wput_ok (m n:Nat)(hm:10000<=m)(Y:1000<=n)(is:Wr q h H A t C J .nP Q U V k w l s f p v F)
  (kind:UInt8)  (hb:j<=2147483647) {body:Str} (hl:body.length<=500) (hf:0<cnt k 0 q.nb):
  ∃H' P Z',f110 (dy (m+2)) n [.ptr H 0, .agg (bytesV (sealB kind j body))] h=some (.tuple [.agg (ptrV (ptrB P j (sealB kind j body))), .int .i64 (0:Nat)],H')/\2<=P/\P<q.nb/\k P=0/\
   Wr { q with ws:=q.ws++[(P,sealB kind j body)] } H' H A t C J .nP Q U P (setS k P 2) w l s f p Z' F/\AdT v h Z' H':=by
 obtain⟨b,a⟩: ∃b,b=sealB kind j body:=⟨_,rfl⟩;have W:=sealB_len (kind:=kind) (birth:=j) hl;rw[<-a]at W;obtain⟨On,Nw,wv,ds,G,I,nt,tl,ol,es,root,Ad,M,k0,hZ,hO⟩:=is.gw;have last:=is.ti.ok;obtain⟨sc,txg⟩:=is.sp.bk;obtain⟨e8,f1,f2⟩:=is.nb;have a5:H≠A:=fun e=>by
  obtain⟨c,g,l8,_⟩:=is.sp;rw[<-e,root]at g;simp only[zB,AObj.cells.injEq]at g;rw[<-g.1]at l8;simp at l8
 have a6:H≠J:=ne_of_get root es.gD (by simp);have a7:H≠Nw:=ne_of_get root es.gN (by simp);have a8:H≠On:=ne_of_get root es.gO (by simp);have a9: ¬Blk wv H:=fun E=>ne_of_get root (es.ow.get E) (by simp) rfl
 have f3: ¬Blk G H:=fun E=>ne_of_get root (kC Ad E) (by simp) rfl
 have c0: ¬Blk I H:=fun E=>ne_of_get root (kC M E) (by simp) rfl
 have c1:A≠J:=ne_of_get txg es.gD (by simp);have c2:A≠Nw:=ne_of_get txg es.gN (by simp);have c3:A≠On:=ne_of_get txg es.gO (by simp);have c4: ¬Blk wv A:=fun E=>ne_of_get txg (es.ow.get E) (by simp) rfl
 have c5: ¬Blk G A:=fun E=>ne_of_get txg (kC Ad E) (by simp) rfl
 have c6: ¬Blk I A:=fun E=>ne_of_get txg (kC M E) (by simp) rfl
 have f4: ¬Blk G J:=fun E=>ne_of_get es.gD (kC Ad E) (by simp) rfl
 have c7: ¬Blk I J:=fun E=>ne_of_get es.gD (kC M E) (by simp) rfl
 have f5: ¬Blk G Nw:=fun E=>ne_of_get es.gN (kC Ad E) (by simp) rfl
 have c8: ¬Blk I Nw:=fun E=>ne_of_get es.gN (kC M E) (by simp) rfl
 have f6: ¬Blk G On:=fun E=>ne_of_get es.gO (kC Ad E) (by simp) rfl
 have f7: ¬Blk I On:=fun E=>ne_of_get es.gO (kC M E) (by simp) rfl
 have f8: ∀B,Blk wv B-> ¬Blk G B:=fun B E la=>ne_of_get (es.ow.get E) (kC Ad la) (by simp) rfl
 have c9: ∀B,Blk wv B-> ¬Blk I B:=fun B E la=>ne_of_get (es.ow.get E) (kC M la) (by simp) rfl
 have f9: ∀B,Blk G B-> ¬Blk I B:=fun B E la=>ne_of_get (kC Ad E) (kC M la) (by simp) rfl
 have zA:v H:=(hZ H).2 (.inl rfl);have zS:v A:=(hZ A).2 (.inr (.inl rfl));have zD:v J:=(hZ J).2 (.inr (.inr (.inl rfl)));have zN:v Nw:=(hZ Nw).2 (.inr (.inr (.inr (.inl rfl))));have zw: ∀B,Blk wv B->v B:=fun B E=>(hZ B).2 (.inr (.inr (.inr (.inr (.inl E)))))
 have zt: ∀B,Blk G B->v B:=fun B E=>(hZ B).2 (.inr (.inr (.inr (.inr (.inr (.inl E))))))
 have zo: ∀B,Blk I B->v B:=fun B E=>(hZ B).2 (.inr (.inr (.inr (.inr (.inr (.inr E))))))
 obtain⟨H1,A3,b1,p1,g1,m1,n1⟩:=box last (.cells (bytesV b) 144 1 false);obtain⟨H2,A4,b2,p2,g2,m2,n2⟩:=box p1.ok (.cells [.int .i64 (0:Nat), .int .i64 (0:Nat), .int .u64 (0:Nat)] 38 1 false);have left:=p1.trans p2;have N1:=p1.next;have N2:=p2.next
 have zl:=is.lt;obtain⟨H3,P,e3,j2,jn,j0,g0,z⟩:=stake_ok m n hm (by omega) p2.ok (is.sp.stp last left (fun x=>x)) f2 (by omega) is.s0.1 is.s0.2 hf;have N3:=z.next
 have d0: ∀ {i:Nat} {o:AObj},h.h.get i=some o->i≠A->H3.h.get i=some o:=fun {i o} g E=>by
  rw[z.keep i (by have:=last.lt g;omega) E];exact jY left last g
 have d1:=d0 root a5;have g3:Own 1 3 H3 G nt tl:=(Ad.mono left fun _ _ x=>x).mono z fun B a e=>c5 (e▸a)
 obtain⟨H4,A5,b4,At,g4,m4,n4⟩:=box z.ok (.cells [.int .i64 ((P:Nat):Int)] 3 1 false);have N4:=At.next
 have d9:srcOf 1 (.slice A5 0 1 2) H4=some (1,[.int .i64 ((P:Nat):Int)]):=by simp only[srcOf,g4];rfl
 have k3:=is.few;have k4:=es.few;obtain⟨H5,e5,g5,K,n5⟩:=apP_own (bytes:=8) (m:=1) At.ok (by decide) (g3.mono At fun _ _ x=>x) d9 rfl rfl (by omega) (by omega) (by decide);have N5:=K.next
 have g7:=jY At z.ok d1;have g9:H5.h.get H=_:=(K.keep _ (by have:=last.lt root;omega) f3).trans g7;obtain⟨S,e6,g6,L,n6⟩:=st_fld K.ok g9 (o:=4) (x:= .slice H4.next 0 (nt+1) 1) rfl (by simp)
 have N6:=L.next
 have a4: ∀ {i:Nat} {o:AObj},h.h.get i=some o->i≠A->i≠H-> ¬Blk G i->S.h.get i=some o:=fun {i o} g h1 h2 h3=>by
  have:=last.lt g;rw[L.keep i (by omega) h2,K.keep i (by omega) h3];exact jY At z.ok (d0 g h1)
 have h0:DkI S J q.nb q.ws On Nw wv ds:=by
  refine⟨a4 es.gD c1.symm a6.symm f4,a4 es.gO c3.symm a8.symm f6,a4 es.gN c2.symm a7.symm f5, ?_,es.nw,es.ln,es.few,es.ne,es.on_,es.sp,es.oa⟩;exact((((es.ow.mono left fun _ _ x=>x).mono z fun B a e=>c4 (e▸a)).mono At fun _ _ x=>x).mono K fun B a la=>f8 B a la).mono L fun B a e=>a9 (e▸a)
 obtain⟨H7,b0,d2,e7,h4,dr,a0⟩:=dkwrite_ok (dy (m+2)) n L.ok h0 jn W (by omega);have N7:=dr.next
 have d3:S.h.get H=_:=g6;have d4:H7.h.get H=_:=(dr.keep _ (by have:=last.lt root;omega) (fun e=>by rcases e with e | e | e;exact a6 e;exact a7 e;exact a9 e)).trans d3;obtain⟨Z0,d5⟩: ∃Z0:Str,Z0=List.replicate 512 0:=⟨_,rfl⟩;have h5:rep 512 [AV.int .u8 (0:Nat)]=bytesV Z0:=by rw[rep_row,d5]
 have h6:(bytesV Z0).length=512:=by rw[bytesV_length,d5];exact List.length_replicate
 have b3:(bytesV b).length=512:=by rw[bytesV_length,W]
 obtain⟨q1,q2⟩:=blk_bld 146 (x:= .int .i64 ((P:Nat):Int)) (c:= .int .i64 (0:Nat)) h6 b3 rfl;obtain⟨H8,A6,b8,Z,g8,m8,n8⟩:=box dr.ok (.cells (.int .i64 ((P:Nat):Int)::bytesV b) 146 513 false);have N8:=Z.next
 have e0:srcOf 513 (.slice A6 0 1 2) H8=some (1,wV (P,b)):=by
  have h7:subN (AV.int .i64 ((P:Nat):Int)::bytesV b) 0 (1*513)=some (wV (P,b)):=by
   rw[subN_some _ _ _ (.inr (by simp[b3])),yE,zW (by simp[b3])];rfl
  simp only[srcOf,g8,h7]
 have h8:Own 513 146 S I nt ol:=((((M.mono left fun _ _ x=>x).mono z fun B a e=>c6 (e▸a)).mono At fun _ _ x=>x).mono K fun B a la=>f9 B la a).mono L fun B a e=>c0 (e▸a)
 have h9:Own 513 146 H7 I nt ol:=h8.mono dr fun B a e=>by
  rcases e with e | e | e
  .exact c7 (e▸a)
  .exact c8 (e▸a)
  .exact c9 B e a
 have i0:allCells (wV (P,b))=true:=by
  have:=bytesV_cells b;simp only[wV,allCells,this];rfl
 obtain⟨H9,e9,i1,N,n9⟩:=apP_own (bytes:=520) (m:=1) Z.ok (by decide) (h9.mono Z fun _ _ x=>x) e0 (by rw[wV_len W]) i0 (by omega) (by omega) (by decide);have N9:=N.next
 have i2:H9.h.get H=_:=(N.keep _ (by have:=last.lt root;omega) c0).trans (jY Z dr.ok d4);obtain⟨i3,i4,i5,u,k5⟩:=st_fld N.ok i2 (o:=5) (x:= .slice H8.next 0 (nt+1) 1) rfl (by simp)
 have k6:=u.next
 obtain⟨i6,d6,y⟩:=bto_ok (dy (m+2)) n Y u.ok kind (at_:=P) (by omega) (by omega) hb hl;rw[<-a]at d6;have k7:=y.next
 have d7: ∀ {i:Nat} {o:AObj},H2.h.get i=some o->h.next<=i->S.h.get i=some o:=fun {i o} g E=>by
  have:=p2.ok.lt g;rw[L.keep i (by omega) (by have:=last.lt root;omega),K.keep i (by omega) (fun a=>by have:=Own.lt Ad a;omega),At.keep i (by omega) (fun x=>x),z.keep i (by omega) (by have:=last.lt txg;omega)];exact g
 have b5:=d7 (jY p2 p1.ok g1) (by omega);have i7:=d7 g2 (by omega);have z6: ∀B,(B=J\/B=Nw\/Blk wv B)->B<h.next:=fun B a=>by
  rcases a with e | e | e
  .exact zl B (e▸zD)
  .exact zl B (e▸zN)
  .exact zl B (zw B e)
 have d8: ∀ {i:Nat} {o:AObj},S.h.get i=some o->h.next<=i->i<H3.next->i3.h.get i=some o:=fun {i o} g E h3=>by
  rw[u.keep i (by omega) (by have:=last.lt root;omega),N.keep i (by omega) (fun a=>by have:=Own.lt M a;omega),Z.keep i (by omega) (fun x=>x),dr.keep i (by omega) (fun a=>by have:=z6 i a;omega)];exact g
 have b7:=d8 b5 (by omega) (by omega);have e1:=jY y u.ok (d8 i7 (by omega) (by omega));obtain⟨a3,i8,i9,O,k8⟩:=st_all y.ok e1 (l':=ptrV (ptrB P j b)) rfl rfl;have e2:stN 3 (.ptr A4 0) (.agg (ptrV (ptrB P j b))) i6=some (undefA,a3):=i8;have k9:=O.next
 have j1:ldN 3 (.ptr A4 0) a3=some (.agg (ptrV (ptrB P j b))):=ldN_all i9 rfl;have j3:=ldR b5 W;have l0:H9.h.get A3=some (.cells (bytesV b) 144 1 false):=by
  rw[<-u.keep A3 (by omega) (by have:=last.lt root;omega)];exact b7
 have j4:H7.h.get A3=some (.cells (bytesV b) 144 1 false):=by
  rw[dr.keep A3 (by omega) (fun a=>by have:=z6 A3 a;omega)];exact b5
 have e4:=ldR b7 W;have j5:=ldR j4 W;have j6:=jY left last root;have w1:Eng.ld1 (.ptr H 1) H2=some (.ptr A 0):=by rw[ld1_get j6];rfl
 have w4:Eng.ld1 (.ptr H 4) H3=some G:=by rw[ld1_get d1];rfl
 have w0:Eng.ld1 (.ptr H 0) S=some (.ptr t 0):=by rw[ld1_get d3];rfl
 have w5:Eng.ld1 (.ptr H 5) H7=some I:=by rw[ld1_get d4];rfl
 have b6:F t:=(is.pa t).2 (.inl rfl);have j7:S.h.get t=_:=a4 is.ti.gT (fun e=>is.pr t b6 (e▸zS)) (fun e=>is.pr t b6 (e▸zA)) (fun e=>is.pr t b6 (zt t e));have wT:Eng.ld1 (.ptr t 0) S=some (.ptr J 0):=by rw[ld1_get j7];rfl
 have j8: ¬(((0:Nat):Int)≠((0:Nat):Int)):=by omega
 refine⟨a3,P,fun B=>B=H\/B=A\/B=J\/B=Nw\/Blk b0 B\/Blk (.slice H4.next 0 (nt+1) 1) B\/Blk (.slice H8.next 0 (nt+1) 1) B, ?_,j2,jn,j0, ?_, ?_⟩
 .rw[<-a];simp(maxSteps:=999999)(disch:=omega) only[f110,eZ,b1,b2,w1,e3,pExtract,nth,j8,w4,row1 3 (.int .i64 (0:Nat)) (show isCell (.int .i64 ((P:Nat):Int))=true from rfl),b4,e5,e6,w0,wT,j3,e7,w5,j5,h5,qB,qV,q1,q2,b8,e9,i4,e4,d6,e2,j1]
 ·
  have l1:=last.lt root;have l2:=last.lt txg;have b9:DkI a3 J q.nb (q.ws++[(P,sealB kind j body)]) On Nw b0 d2:=by
   rw[<-a];have lD:=zl J zD;have lN:=zl Nw zN;have lO:=last.lt es.gO;refine((((h4.prs dr.ok Z).stp Z.ok N c7 f7 c8 fun B hb T=> ?_).stp N.ok u a6.symm a8.symm a7.symm fun B hb T=> ?_).prs u.ok y).stp y.ok O (by omega) (by omega) (by omega) fun B hb T=> ?_
   .rcases a0 B hb with x | x
    .exact c9 B x T
    .have:=Own.lt M T;omega
   .rcases a0 B hb with x | x
    .exact a9 (T▸x)
    .omega
   .rcases a0 B hb with x | x
    .have:=zl B (zw B x);omega
    .omega
  have st:Stp v h a3:=⟨O.ok,by omega,fun B a As=>by
   have a1:B≠H:=fun e=>As (e▸zA)
   have a2:B≠A:=fun e=>As (e▸zS)
   rw[O.keep B (by omega) (by omega),y.keep B (by omega) (fun x=>x),u.keep B (by omega) a1,N.keep B (by omega) (fun E=>As (zo B E)),Z.keep B (by omega) (fun x=>x),dr.keep B (by omega) (fun E=>by rcases E with e | e | e;exact As (e▸zD);exact As (e▸zN);exact As (zw B e)),L.keep B (by omega) a1,K.keep B (by omega) (fun E=>As (zt B E)),At.keep B (by omega) (fun x=>x),z.keep B (by omega) a2,left.keep B a (fun x=>x)]⟩
  obtain⟨k1,k2⟩:=(cnt_set (b:=2) j0 (by omega) (n:=q.nb)).1 jn;refine⟨is.ti.wr st (fun B a=>is.pr B ((is.pa B).2 a)) b9, ?_, ?_,⟨On,Nw,b0,d2,_,_,nt+1,tl++[.int .i64 ((P:Nat):Int)],ol++wV (P,b),b9, ?_, ?_, ?_, ?_,fun B=>Iff.rfl, ?_⟩,fun B a T=> ?_,is.pa, .inl j2,⟨e8,f1,jn⟩, ?_,is.lf⟩
  .refine((((((((g0.stp z.ok At fun x=>x).stp At.ok K c5).stp K.ok L a5.symm).stp L.ok dr fun e=> ?_).stp dr.ok Z fun x=>x).stp Z.ok N c6).stp N.ok u a5.symm).stp u.ok y fun x=>x).stp y.ok O (by omega);rcases e with e | e | e
   .exact c1 e
   .exact c2 e
   .exact c4 e
  .simp only[zT,j9];omega
  .rw[O.keep H (by omega) (by omega)];exact jY y u.ok i5
  .refine((((((g5.mono L fun B hb e=> ?_).mono dr fun B hb e=> ?_).mono Z fun _ _ x=>x).mono N fun B hb e=> ?_).mono u fun B hb e=> ?_).mono y fun _ _ x=>x).mono O fun B hb e=> ?_
   all_goals rw[jS.1 hb]at e
   .omega
   .have:=z6 _ e;omega
   .have:=Own.lt M e;omega
   .omega
   .omega
  .refine((i1.mono u fun B hb e=> ?_).mono y fun _ _ x=>x).mono O fun B hb e=> ?_
   all_goals rw[jS.1 hb]at e;omega
  .simp only[zT,j9];omega
  .intro E;have lO:=last.lt es.gO;rcases E with e | e | e | e | e | e | e
   .exact a8 e.symm
   .exact c3 e.symm
   .exact hO (e▸zD)
   .exact es.ne e
   .rcases a0 On e with x | x
    .exact hO (zw On x)
    .omega
   .rw[jS.1 e]at lO;omega
   .rw[jS.1 e]at lO;omega
  .have lP:=is.old B a;have Y:=is.pr B a;rcases T with e | e | e | e | e | e | e
   .exact Y (e▸zA)
   .exact Y (e▸zS)
   .exact Y (e▸zD)
   .exact Y (e▸zN)
   .rcases a0 B e with x | x
    .exact Y (zw B x)
    .omega
   .rw[jS.1 e]at lP;omega
   .rw[jS.1 e]at lP;omega
  .rw[setS_ne (by omega),setS_ne (by omega)];exact is.s0
 .refine⟨⟨O.ok,by omega,fun B a As=> ?_⟩,fun B T=> ?_⟩
  .have a1:B≠H:=fun e=>As (e▸zA)
   have a2:B≠A:=fun e=>As (e▸zS)
   rw[O.keep B (by omega) (by omega),y.keep B (by omega) (fun x=>x),u.keep B (by omega) a1,N.keep B (by omega) (fun E=>As (zo B E)),Z.keep B (by omega) (fun x=>x),dr.keep B (by omega) (fun E=>by rcases E with e | e | e;exact As (e▸zD);exact As (e▸zN);exact As (zw B e)),L.keep B (by omega) a1,K.keep B (by omega) (fun E=>As (zt B E)),At.keep B (by omega) (fun x=>x),z.keep B (by omega) a2,left.keep B a (fun x=>x)]
  .rcases T with e | e | e | e | e | e | e
   .exact .inl (e▸zA)
   .exact .inl (e▸zS)
   .exact .inl (e▸zD)
   .exact .inl (e▸zN)
   .rcases a0 B e with x | x
    .exact .inl (zw B x)
    .exact .inr (by omega)
   .rw[jS.1 e];exact .inr (by omega)
   .rw[jS.1 e];exact .inr (by omega)
open Go.Bt
theorem dsk_cons (p:Ptr)(l:List Ptr):dsk (p::l)=if p.at_=1 then dsk l else p::dsk l:=by
 by_cases e:p.at_=1<;>simp[dsk,e]
theorem dsk_mem  :w∈dsk i↔w∈i/\w.at_≠1:=by simp[dsk]
theorem Ev.K_keep {E:Ev}(h:E.K w=some e)(hb:blkAt w.at_.toNat B=blkAt w.at_.toNat E.ws):Ev.K { E with ws:=B} w=some e:=by
 obtain⟨a,birth,kind,body,rfl,i,j,h3,m,h5,h6,h7,h8⟩:=jU.1 h;refine jU.2 ⟨a,birth,kind,body,rfl,i,j,h3,m,h5, ?_,h7,h8⟩;have ws':(ptrB a birth (sealB kind birth body)).at_.toNat=a:=by simp[ptrB]
 rw[ws']at hb;exact hb.trans h6
structure WOut (nb:Nat)(ws ws':Ws)(is is':Nat->Nat)(T T':List Ptr):Prop where
 pm: ∃news,T'.Perm (dsk T++news)/\news.Nodup/\news.length=cp T/\ ∀r∈news,2<=r.at_/\is r.at_.toNat=0/\is' r.at_.toNat≠0
 up: ∀i,is' i=is i\/(is i=0/\is' i=2)
 ct:cnt is' 0 nb+cp T=cnt is 0 nb
 bk: ∀a,is a≠0->blkAt a ws'=blkAt a ws
 ln:ws'.length=ws.length+cp T
theorem WOut.nil (nb:Nat)(a:Ws)(is:Nat->Nat){T:List Ptr}(h: ∀r∈T,r.at_≠1):WOut nb a a is is T T:=by
 have e:dsk T=T:=List.filter_eq_self.2 fun p hp=>by simpa using h p hp
 have c:cp T=0:=by
  rw[cp,List.length_eq_zero_iff];exact List.filter_eq_nil_iff.2 fun p hp=>by simpa using h p hp
 exact⟨⟨[],by simp[e],by simp,by rw[c];rfl,by simp⟩,fun _=> .inl rfl,by omega,fun _ _=>rfl,by omega⟩
theorem WOut.nz (w:WOut H B m k M i R)(h:k A≠0):M A≠0:=by
 rcases w.up A with e | ⟨e,_⟩<;>omega
theorem WOut.used (w:WOut H B m k M i R)(h: ∀r∈i,r.at_≠1->k r.at_.toNat≠0): ∀r∈R,r.at_≠1/\M r.at_.toNat≠0:=fun r hr=>by
 obtain⟨q,p,_,_,nb⟩:=w.pm;rcases zZ.1 (p.mem_iff.1 hr)with e | e
 .obtain⟨o,j⟩:=dsk_mem.1 e;exact⟨j,w.nz (h r o j)⟩
 .obtain⟨s,_,h3⟩:=nb r e;exact⟨by omega,h3⟩
theorem WOut.app {m o:Ws}{q:Nat->Nat}{U u:List Ptr}(w:WOut H B m k M i R)(v:WOut H m o M q U u):WOut H B o k q (i++U) (R++u):=by
 obtain⟨G,I,J,K,z⟩:=w.pm;obtain⟨L,nb,N,O,C⟩:=v.pm;refine⟨⟨G++L, ?_, ?_,by rw[cp_app,zT,K,O],fun r hr=> ?_⟩,fun s=> ?_, ?_,fun a f=> ?_, ?_⟩
 .rw[dsk_app];refine(I.append nb).trans ?_;rw[List.perm_iff_count];intro a;simp only[List.count_append];omega
 .refine List.nodup_append.2 ⟨J,N,fun a f b hb e=> ?_⟩;subst e;exact(z a f).2.2 (C a hb).2.1
 .rcases zZ.1 hr with e | e
  .obtain⟨h,F,j⟩:=z r e;exact⟨h,F,v.nz j⟩
  .obtain⟨h,F,j⟩:=C r e;refine⟨h, ?_,j⟩;rcases w.up r.at_.toNat with x | ⟨x,y⟩
   .omega
   .exact x
 .rcases w.up s with a | ⟨a,b⟩<;>rcases v.up s with c | ⟨c,d⟩
  .exact .inl (by omega)
  .exact .inr ⟨by omega,d⟩
  .exact .inr ⟨a,by omega⟩
  .omega
 .have:=w.ct;have:=v.ct;rw[cp_app];omega
 .rw[v.bk a (w.nz f),w.bk a f]
 .have:=w.ln;have:=v.ln;rw[cp_app];omega
theorem WOut.put {o:List Ptr}(w:WOut H B m k M i o){s birth:Nat}{b:Str}(y:2<=A)(jn:A<H)(p:M A=0):WOut H B (m++[(A,b)]) k (setS M A 2) (pp s::i) (ptrB A birth b::o):=by
 have u:WOut H m (m++[(A,b)]) M (setS M A 2) [pp s] [ptrB A birth b]:=by
  obtain⟨k1,k2⟩:=(cnt_set (b:=2) p (by omega) (n:=H)).1 jn;refine⟨⟨[ptrB A birth b],by simp[dsk,pp],by simp,by simp[cp,pp],fun r hr=> ?_⟩,fun nb=> ?_, ?_,fun a v=> ?_,by simp[cp,pp]⟩
  .obtain rfl:r=ptrB A birth b:=by simpa using hr
   have:(ptrB A birth b).at_.toNat=A:=by simp[ptrB]
   rw[this,setS_self];exact⟨by simp[ptrB];omega,p,by omega⟩
  .by_cases e:nb=A
   .subst e;exact .inr ⟨p,setS_self ..⟩
   .exact .inl (setS_ne e)
  .simp only[cp,pp,decide_true,List.filter_cons_of_pos,List.filter_nil,j9];omega
  .rw[blkAt_snoc,if_neg (fun e:A=a=>v (by rw[<-e];exact p))]
 have h:=w.app u;refine⟨?_,h.up, ?_,h.bk, ?_⟩
 .obtain⟨t,a,b,c,d⟩:=h.pm;refine⟨t, ?_,b, ?_,d⟩
  .have x:(ptrB A birth ‹_› ::o).Perm (o++[ptrB A birth ‹_›]):=(List.perm_append_singleton _ _).symm;refine x.trans (a.trans ?_);rw[dsk_app,dsk_cons];simp[dsk,pp]
  .rw[c,cp_app,cp_cons];simp[pp,cp,Nat.add_comm]
 .have:=h.ct;rw[cp_app]at this;rw[cp_cons];simp only[cp_cons,cp_nil]at this;omega
 .have:=h.ln;rw[cp_app]at this;rw[cp_cons];simp only[cp_cons,cp_nil]at this;omega
def WN (h:Nat)(t:Bt.Tr h):Prop:=(∃lo hi,WF h lo hi t)\/WR h t
theorem WN.gen {h:Nat}{t:Bt.Tr h}(w:WN h t): ∃lo hi,Gen h lo hi t:=by
 rcases w with⟨lo,hi,w⟩ | w
 .exact⟨lo,hi,w.gen⟩
 .exact⟨none,none,w.gen⟩
theorem WN.sz {h:Nat}{t:Bt.Tr h}(w:WN h t):tsize h t<=500:=by
 rcases w with⟨lo,hi,w⟩ | w
 .exact w.sz
 .exact w.sz
theorem WN.ne {t:Bt.Tr (H+1)}(w:WN (H+1) t):t.1≠[]:=by
 rcases w with⟨lo,hi,w⟩ | w
 .exact w.2.1
 .exact w.2.1
theorem WN.kid {t:Bt.Tr (H+1)}(w:WN (H+1) t){x:Bt.Tr H}(a:x∈t.2):WN H x:=by
 obtain⟨i,hi,rfl⟩:=jH a;rcases w with⟨lo,f,w⟩ | w
 .exact .inl ⟨_,_,w.1.2.2.at (zO hi)⟩
 .exact .inl ⟨_,_,w.1.2.2.at (zO hi)⟩
end Go.Eng.Sh
end
section
namespace Go.Eng
theorem rowSt (j:h.ok){i N cc:Nat}{f x:List AV}(e:h.h.get H=some (.cells (I++f) A t W))(m:I.length=i*t)(o:0<t)(y:t<=f.length)(q:x.length=t)(s:allCells x=true)(hi:i<N):
  ∃H',(∀κ (z:Int),z=(i:Int)->ixSl t (.slice H 0 N cc) (.int κ z)=some (.ptr H (i*t)))/\stN t (.ptr H (i*t)) (.agg x) h=some (undefA,H')/\H'.h.get H=some (.cells (I++x++f.drop t) A t W)/\Stp (fun B=>B=H) h H'/\H'.next=h.next:=by
 have hb:Nat.blt i N=true:=by rw[q9];exact hi
 have p:i*t+t<=(I++f).length:=by rw[zT];omega
 refine⟨_,fun κ z k=> ?_,stN_ok e o q s p, ?_,(jV j).put (j.lt e) _ (.inr rfl),rfl⟩
 .subst k;simp only[ixSl,natOf_int κ (show(0:Int)<=(i:Int)by omega),qU,hb,zP,fN_eq,yU]
 .rw[jO,if_pos rfl];have u:(I++f).take (i*t)=I:=yX m;have v:(I++f).drop (i*t+t)=f.drop t:=by rw[<-List.drop_drop,yO m]
  simp only[cellsA,u,v]
end Go.Eng
namespace Go.Eng.Sh
open Go.Nd (Ptr Str)
open Go.Bk Go.Bt
theorem AdT.keep {Z a:Nat->Prop}{H H':AH}(h:AdT Z H a H'){A:Nat}(f:A<H.next)(i: ¬Z A):H'.h.get A=H.h.get A/\ ¬a A/\A<H'.next:=
 ⟨h.1.keep A f i,fun x=>by rcases h.2 A x with y | y;exact i y;omega,qF f h.1.next⟩
theorem Wr.box (M:Wr q h H A t C J .nP Q U V k w l s f p v F)(Ad:Stp (fun B=>B=j) h Y)(u: ¬v j)(hp: ¬F j){e At:Nat}(la:h.h.get j=some (.cells I e At W)):Wr q Y H A t C J .nP Q U V k w l s f p v F:=by
 obtain⟨On,Nw,wv,ds,x,y,nt,z,m,o,left,is,G,es,a,As⟩:=M.gw;have i:=M.ti.ok;have nz: ∀B,v B-> ¬B=j:=fun B E e=>u (e▸E)
 have K: ¬On=j:=fun e=>by have:=o.gO;rw[e,la]at this;cases this
 have root:DkI Y J q.nb q.ws On Nw wv ds:=o.stp i Ad (nz _ ((a _).2 (.inr (.inr (.inl rfl))))) K (nz _ ((a _).2 (.inr (.inr (.inr (.inl rfl)))))) fun B txg=>nz _ ((a _).2 (.inr (.inr (.inr (.inr (.inl txg))))))
 have H':=M.ti.wr Ad (fun B txg=>fun e=>hp (e▸(M.pa B).2 txg)) root;exact⟨H',M.sp.stp i Ad (nz _ ((a _).2 (.inr (.inl rfl)))),M.few,⟨On,Nw,wv,ds,x,y,nt,z,m,root,by rw[Ad.keep _ (i.lt left) (nz _ ((a _).2 (.inl rfl)))];exact left,is.mono Ad fun B txg=>nz _ ((a _).2 (.inr (.inr (.inr (.inr (.inr (.inl txg))))))),G.mono Ad fun B txg=>nz _ ((a _).2 (.inr (.inr (.inr (.inr (.inr (.inr txg))))))),es,a,As⟩,M.pr,M.pa,M.bd,M.nb,M.s0,M.lf⟩
theorem Wr.dec (Ad:Wr q h H A t C J .nP Q (U+1) V k w l s f p v F):
  ∃H',Eng.ld1 (.ptr H 3) h=some (.int .i64 (U+1:Nat))/\stN 1 (.ptr H 3) (.int .i64 U) h=some (undefA,H')/\Eng.ld1 (.ptr H 3) H'=some (.int .i64 U)/\Eng.ld1 (.ptr H 0) H'=some (.ptr t 0)/\Wr q H' H A t C J .nP Q U V k w l s f p v F/\AdT v h v H'/\H'.next=h.next:=by
 obtain⟨On,Nw,wv,ds,At,K,nt,L,N,m,left,is,y,O,z,As⟩:=Ad.gw;have la:=Ad.ti.ok;obtain⟨root,M,txg,j,S⟩:=st_fld la left (o:=3) (x:= .int .i64 U) rfl (by simp);have a:v H:=(z _).2 (.inl rfl);have I:A≠H:=fun e=>by
  obtain⟨c,g,G,_⟩:=Ad.sp;rw[e,left]at g;simp only[zB,AObj.cells.injEq]at g;rw[<-g.1]at G;simp at G
 have u:DkI root J q.nb q.ws On Nw wv ds:=m.stp la j (fun e=>ne_of_get left m.gD (by simp) e.symm) (fun e=>As (e▸a)) (fun e=>ne_of_get left m.gN (by simp) e.symm) fun B i e=>ne_of_get left (m.ow.get i) (by simp) e.symm
 refine⟨root,by rw[ld1_get left];rfl,M,by rw[ld1_get txg];rfl,by rw[ld1_get txg];rfl,⟨Ad.ti.wr j (fun B i e=>Ad.pr B ((Ad.pa B).2 i) (e▸a)) u,Ad.sp.stp la j I,Ad.few,⟨On,Nw,wv,ds,At,K,nt,L,N,u,txg,is.mono j fun B i e=>ne_of_get left (kC is i) (by simp) e.symm,y.mono j fun B i e=>ne_of_get left (kC y i) (by simp) e.symm,O,z,As⟩,Ad.pr,Ad.pa,Ad.bd,Ad.nb,Ad.s0,by have:=Ad.lf;omega⟩,⟨j.mono fun B _ e=>e▸a,fun _ E=> .inl E⟩,S⟩
def WNode (h:Nat):Prop:= ∀ {E:Ev} {H:AH} {a As At M Ad txg left la:Nat} {is:Nat->Nat} {root:Ptr} {es:List (AV×AV)} {q:PN} {last:Nat} {dr:AV} {Z P:Nat->Prop} (k n:Nat) {p:Ptr} {o:Nd.Node} {t:Bt.Tr h} {S:List Ptr},200000000+h<=k->200000000<=n->
  Wr E H a As At M Ad .nP txg left la is root es q last dr Z P->Qf E q [] p=some o->RepN (Qf E q []) h o t S->WN h t->(∀r∈p::S,r.at_≠1->is r.at_.toNat≠0)->cp (p::S)<=left->cp (p::S)<=cnt is 0 E.nb->txg<=2147483647->
  ∃H' ws' s la' j f m u i,f79 (dy k) n [.ptr a 0, .agg (ptrV p)] H=some (.tuple [.agg (ptrV f), .int .i64 (0:Nat)],H')/\Wr { E with ws:=ws'} H' a As At M Ad .nP txg i la' j root es q last dr s P/\AdT Z H s H'/\WOut E.nb E.ws ws' is j (p::S) (f::u)/\i+cp (p::S)=left/\Ev.K { E with ws:=ws'} f=some m/\RepN (Ev.K { E with ws:=ws'}) h m t u
theorem Qf_keep {ws':Ws}(h:Qf q s [] w=some e)(hb:w.at_≠1->blkAt w.at_.toNat ws'=blkAt w.at_.toNat q.ws):Qf { q with ws:=ws'} s [] w=some e:=by
 obtain⟨E,rfl,f⟩ | ⟨f,i⟩:=Qf_inv h
 .rw[Qf_pp]at h⊢;exact h
 .rw[Qf_disk f];exact Ev.K_keep i (hb fun r=>by have:=(kidOk_K i).2;omega)
theorem wkids (ih:WNode H)(k n:Nat)(hk:200000000+H<=k)(hn:200000000<=n){cc N:Nat}{x4 x6:AV}(ht:U<=2147483647)(hN:N=R.length)(f2:N<=100000):
  ∀(y:List Ptr) (ts:List (Bt.Tr H)) (S a:List Ptr) (E:Ev) (h:AH) (Z:Nat->Prop) (left la:Nat) (is:Nat->Nat) (es:Nat) (As:List AV),Wr E h A t C J Q .nP U left la is w l s f p Z v->RepL (Qf E s []) (RepN (Qf E s []) H) y ts S->(∀x∈ts,WN H x)->(∀r∈S,r.at_≠1->is r.at_.toNat≠0)->cp S<=left->cp S<=cnt is 0 E.nb->y.length<es->
   Ptrs h P R->(∀B,Blk P B->v B)->R.drop a.length=y->a.length+y.length=R.length->h.h.get V=some (.cells (a.flatMap ptrV++As) 38 3 false)->As.length=y.length*3-> ¬Z V-> ¬v V->
   ∃H' ws' Z' la' b0 a9 b2 S',loopK es (f79l0 (dy (k+1)) n) [.ptr A 0,x4,x6, .slice V 0 N cc,P, .int .i64 N, .int .i64 a.length] h=some (.exit 0 [.ptr A 0,x4,x6, .slice V 0 N cc],H')/\Wr { E with ws:=ws'} H' A t C J Q .nP U a9 la' b0 w l s f p Z' v/\AdT (fun B=>Z B\/B=V) h (fun B=>Z' B\/B=V) H'/\ ¬Z' V/\WOut E.nb E.ws ws' is b0 S S'/\a9+cp S=left/\RepL (Ev.K { E with ws:=ws'}) (RepN (Ev.K { E with ws:=ws'}) H) b2 ts S'/\H'.h.get V=some (.cells ((a++b2).flatMap ptrV) 38 3 false):=by
 intro y
 induction y with
 | nil=>
  intro ts S a E h Z left la is es As root O hw M b3 b4 txg a4 W hd hl g8 Y a6 a0;obtain⟨es,rfl⟩: ∃m,es=m+1:=⟨es - 1,by simp at txg;omega⟩
  cases ts with
  | cons _ _=>exact O.elim
  | nil=>
   have e:S=[]:=O;subst e;have hi: ¬(a.length:Int)< (N:Int):=by simp only[yI]at hl;omega
   have c8:As=[]:=zR (by simpa using Y);subst c8;refine⟨h,E.ws,Z,la,is,left,[],[],loop_exit (by simp(disch:=omega) only[f79l0,eZ,hi]),root,AdT.prs (jV root.ti.ok),a6,WOut.nil _ _ _ (by simp),by rw[cp_nil];omega,rfl,by simpa using g8⟩
 | cons q y ihp=>
  intro ts S a E h Z left la is es As root O hw M b3 b4 txg a4 W hd hl g8 Y a6 a0;obtain⟨es,rfl⟩: ∃m,es=m+1:=⟨es - 1,by simp at txg;omega⟩
  cases ts with
  | nil=>exact O.elim
  | cons L ts=>
   obtain⟨j,S1,F,hq,hr,c9,rfl⟩:=O;have b5:a.length<R.length:=by simp at hl;omega
   have d0:R[a.length]=q:=by
    have:=List.getElem_cons_drop b5;rw[hd]at this;simp only[yF]at this;exact this.1
   obtain⟨pk,q1,q2⟩:=a4.at b5;rw[d0]at q2;have a7:=root.ti.ok;have l8:=a7.lt g8;obtain⟨H1,b6,b1,p1,g1,m1,n1⟩:=box a7 (.cells [.int .i64 (0:Nat), .int .i64 (0:Nat), .int .u64 (0:Nat)] 38 1 false);obtain⟨H2,e2,g2,s2,n2⟩:=st_all p1.ok g1 (l':=ptrV q) rfl rfl;have d1:stN 3 (.ptr b6 0) (.agg (ptrV q)) H1=some (undefA,H2):=e2;have G:Prs h H2:=p1.fresh s2 fun B last=>by omega
   have r2:ldN 3 (.ptr b6 0) H2=some (.agg (ptrV q)):=ldN_all g2 rfl;have I:q::(S1++F)=(q::S1)++F:=rfl;rw[I,cp_app]at b3 b4;obtain⟨H3,z,Z3,d2,b7,u,d3,a8,c4,e3,w3,T,Ad,f3,d4,d5⟩:=ih k k hk (by omega) (root.prs G) hq hr (hw L (zH ..)) (fun r hr=>M r (by rw[I];exact qZ _ hr)) (by omega) (by omega) ht;have N2:=G.next;have N3:=T.1.next
   have b8:=jY G a7 g8;obtain⟨k8,z8,f4⟩:=T.keep (G.ok.lt b8) a6;have b9:=k8.trans b8;obtain⟨H4,d6,e4,g4,s4,n4⟩:=rowSt (cc:=cc) w3.ti.ok b9 (i:=a.length) (N:=N) (x:=ptrV u) (flat_len3 a) (by omega) (by simp at Y;omega) rfl rfl (by omega);have w4:=w3.box s4 z8 a0 b9;have c0:(a++[u]).length=a.length+1:=by simp
   have c1: ∀r,r∈F-> ∀j,Qf E s [] r=some j->Qf { E with ws:=z} s [] r=some j:=fun r hr j H=>Qf_keep H fun At=>Ad.bk _ (M r (by rw[I];exact qT _ hr) At)
   have d7:RepL (Qf { E with ws:=z} s []) (RepN (Qf { E with ws:=z} s []) H) y ts F:=c9.mono c1 fun j L S' hS r=>r.mono fun q hp j hh=>c1 q (hS q hp) j hh
   have c6:Ptrs H4 P R:=by
    refine(Rw.stp (Rw.stp (a4.prs G) T.1 fun B last=> ?_) s4 fun B last e=> ?_)
    .exact root.pr B (W B last)
    .exact a0 (e▸W B last)
   obtain⟨H5,c2,Z5,d8,d9,c5,e0,S5,e5,w5,a5,z5,o5,f5,e6,g5⟩:=ihp ts F (a++[u]) { E with ws:=z} H4 Z3 c4 d2 b7 es (As.drop 3) w4 d7 (fun x hx=>hw x (zC _ hx)) (fun r hr At=>Ad.nz (M r (by rw[I];exact qT _ hr) At)) (by omega) (by have:=Ad.ct;show cp F<=cnt b7 0 E.nb;omega) (by simp at txg;omega) c6 W (by rw[c0,<-List.drop_drop,hd];rfl) (by simp at hl⊢;omega) (by rw[g4];simp) (by simp at Y⊢;omega) z8 a0;have o:=Ad.app o5;have e7:=Ad.used (fun r hr At=>M r (by rw[I];exact qZ _ hr) At);have c3: ∀r,r∈u::a8-> ∀j,Ev.K { E with ws:=z} r=some j->Ev.K { E with ws:=c2} r=some j:=fun r hr j H=>Ev.K_keep (E:= { E with ws:=z}) H (o5.bk _ (e7 r hr).2)
   refine⟨H5,c2,Z5,d8,d9,c5,u::e0,u::a8++S5, ?_,w5, ?_,z5,o,by rw[I,cp_app];omega,⟨d3,a8,S5,c3 u (zH ..) _ d4,d5.mono fun r hr j H=>c3 r (zC _ hr) j H,e6,rfl⟩,by rw[g5];simp⟩
   .have hi:(a.length:Int)< (N:Int):=by omega
    have e8: ¬(((0:Nat):Int)≠((0:Nat):Int)):=by omega
    have hi1:(a.length:Int)+((1:Nat):Int)=(((a++[u]).length:Nat):Int):=by rw[c0];omega
    have wi:IntKind.wrap .i64 (((a++[u]).length:Nat):Int)=(((a++[u]).length:Nat):Int):=wrap_i64 (by omega) (by omega);have c7:=d6 .i64 _ rfl;have e9:=q1 .i64 _ rfl;have f1:(dy (k+1)).fn 79 [.ptr A 0, .agg (ptrV q)] H2=some (.tuple [.agg (ptrV u), .int .i64 (0:Nat)],H3):=e3;refine(loop_next ?_).trans e5;simp(maxSteps:=999999)(disch:=omega) only[f79l0,eZ,hi,e9,q2,b1,d1,r2,f1,pExtract,nth,c7,e4,e8,hi1,wi]
   .have a1:AdT (fun B=>Z B\/B=V) h (fun B=>Z3 B\/B=V) H3:=by
     refine⟨(G.stp).trans (T.1.mono fun B _ H=> .inl H),fun B last=> ?_⟩;rcases last with last | last
     .rcases T.2 B last with x | x
      .exact .inl (.inl x)
      .exact .inr (by omega)
     .exact .inl (.inr last)
    have a2:AdT (fun B=>Z3 B\/B=V) H3 (fun B=>Z3 B\/B=V) H4:=⟨s4.mono fun B _ H=> .inr H,fun B H=> .inl H⟩;exact(a1.trans a2).trans a5
theorem repN_len (z:List AV): ∀n,(rep n z).length=n*z.length
 | 0=>by simp[rep]
 | n+1=>by rw[rep,zT,repN_len z n,jI];omega
theorem mkSl_ok (e sz bytes:Nat)(z:List AV)(a:H<=1000000)(hb:bytes<=1000):mkSl e sz bytes z (.int .i64 H) (.int .i64 H)=some (.cells (rep H z) e sz false,fun A=> .slice A 0 H (2*H)):=by
 have f:Nat.ble H H=true:=by rw[qO];omega
 have h:Nat.ble (H*bytes) 140737488355328=true:=by
  rw[qO]
  calc H*bytes<=1000000*1000:=Nat.mul_le_mul a hb
   _<=140737488355328:=by decide
 have h3:Nat.blt H 9223372036854775808=true:=by rw[q9];omega
 show mkSl e sz bytes z (.int .i64 (.ofNat H)) (.int .i64 (.ofNat H))=_;simp only[mkSl,f,h,h3,qJ,zP]
theorem sumS_lt2 (s:Str):sumS s<18446744073709551616:=sumF_lt _ _ (by omega)
theorem AdT.prsR {i:AH}(Z:AdT v h F Y)(s:Prs Y i):AdT v h F i:=Z.trans (AdT.prs s)
theorem AdT.boxR {i:AH}(Z:AdT v h F Y)(s:Stp (fun B=>B=H) Y i)(o:h.next<=H):AdT v h F i:=by
 have N:=Z.1.next;have p:=s.next
 refine⟨⟨s.ok,by omega,fun B j m=> ?_⟩,Z.2⟩;rw[s.keep B (by omega) (by omega),Z.1.keep B j m]
theorem AdT.dropR {m:AH}(Z:AdT v h F Y)(k:AdT (fun B=>F B\/B=H) Y (fun B=>z B\/B=H) m)(p:h.next<=H):AdT v h z m:=by
 have N:=Z.1.next;have q:=k.1.next
 refine⟨⟨k.1.ok,by omega,fun B a o=> ?_⟩,fun B a=> ?_⟩
 .rw[k.1.keep B (by omega) fun x=> ?_,Z.1.keep B a o];rcases x with x | x
  .rcases Z.2 B x with y | y
   .exact o y
   .omega
  .omega
 .rcases k.2 B (.inl a)with(x | x) | x
  .exact Z.2 B x
  .exact .inr (by omega)
  .exact .inr (by omega)
theorem wcore (is n:Nat)(hk:200000000<=is)(hn:200000000<=n){last:Nat}{As:Bt.Tr H}
  (root:Wr q h A t C J Q .nP U (V+1) f k w l s last p v F) (hq:lookN j s=some e) (hr:RepN (Qf q s []) H e As i) (hw:WN H As) (m5:cp i+1<=cnt k 0 q.nb) (hu: ∀r∈i,r.at_≠1->k r.at_.toNat≠0) (ht:U<=2147483647)
  (h6: ∀(h:AH) (kv x4 x6:AV) (dr:Nat) (l2:List AV),Wr q h A t C J Q .nP U V f k w l s last p v F->Ptrs h kv e.kids->(∀B,Blk kv B->F B)->h.h.get dr=some (.cells l2 38 3 false)->l2.length=e.kids.length*3-> ¬v dr-> ¬F dr->
   ∃H' ws' N la' Y W a6 y,loopK n (f79l0 (dy is) n) [.ptr A 0,x4,x6, .slice dr 0 e.kids.length (2*e.kids.length),kv, .int .i64 e.kids.length, .int .i64 (0:Nat)] h=some (.exit 0 [.ptr A 0,x4,x6, .slice dr 0 e.kids.length (2*e.kids.length)],H')/\Wr { q with ws:=ws'} H' A t C J Q .nP U W la' Y w l s last p N F/\AdT (fun B=>v B\/B=dr) h (fun B=>N B\/B=dr) H'/\ ¬N dr/\WOut q.nb q.ws ws' k Y i y/\W+cp i=V/\a6.length=e.kids.length/\RepN (Ev.K { q with ws:=ws'}) H { e with kids:=a6} As y/\H'.h.get dr=some (.cells (a6.flatMap ptrV) 38 3 false)):
  ∃H' ws' N la' Y p' S y W,f79 (dy is) n [.ptr A 0, .agg (ptrV (pp j))] h=some (.tuple [.agg (ptrV p'), .int .i64 (0:Nat)],H')/\Wr { q with ws:=ws'} H' A t C J Q .nP U W la' Y w l s last p N F/\AdT v h N H'/\WOut q.nb q.ws ws' k Y (pp j::i) (p'::y)/\W+cp (pp j::i)=V+1/\Ev.K { q with ws:=ws'} p'=some S/\RepN (Ev.K { q with ws:=ws'}) H S As y:=by
 obtain⟨k2,rfl⟩: ∃k2,is=k2+2:=⟨is - 2,by omega⟩;have j1:=root.ti.ok;have zl:=root.lt;have hP:=root.old;obtain⟨H1,A3,b1,p1,g1,m1,n1⟩:=box j1 (.cells (ptrV (pp j)) 38 1 false);obtain⟨H2,A4,b2,p2,g2,m2,n2⟩:=box p1.ok (.cells [.int .i64 (0:Nat), .int .i64 (0:Nat), .int .u64 (0:Nat)] 38 1 false);have P2:=p1.trans p2;have N1:=p1.next;have N2:=p2.next
 have a7:=jY p2 p1.ok g1;obtain⟨H3,d1,d2,d3,d4,w3,a3,n3⟩:=(root.prs P2).dec;have m6:=w3.lt;obtain⟨k13,m8,m9⟩:=a3.keep (p2.ok.lt a7) (fun x=>by have:=zl _ x;omega);have j3:=k13.trans a7;obtain⟨k23,n0,n5⟩:=a3.keep (p2.ok.lt g2) (fun x=>by have:=zl _ x;omega);have j4:=k23.trans g2;have r2:Eng.ld1 (.ptr A3 0) H2=some (.int .i64 (1:Nat)):=by rw[ld1_get a7];rfl
 have r3:ldN 3 (.ptr A3 0) H3=some (.agg (ptrV (pp j))):=ldN_all j3 rfl;obtain⟨H4,At,b4,p4,g4,m4,n4⟩:=box w3.ti.ok (.cells [.bool false, .nS, .nS, .nS] 72 1 false);have N4:=p4.next
 obtain⟨Z,H5,e5,p5,d0,kx,j5⟩:=read_pend (dy (k2+2)) n (w3.ti.prs p4) hq;have N5:=p5.next
 obtain⟨es,rfl,ll,lc⟩:=d0.cells;have j6:=jY p5 p4.ok g4;obtain⟨H6,e6,g6,s6,n6⟩:=st_all p5.ok j6 (l':=es) ll lc;have d5:stN 4 (.ptr At 0) (.agg es) H5=some (undefA,H6):=e6;have p6:Prs H3 H6:=(p4.trans p5).fresh s6 fun B m=>by omega
 have N6:=p6.next
 obtain⟨ks,vs,I,he,h1,h2,h3⟩:=id d0;simp only[AV.agg.injEq]at he;subst he;have f3:Eng.ld1 (.ptr At 3) H6=some I:=by rw[ld1_get g6];rfl
 have d6:Ptrs H5 I e.kids:=h3.row;have d7:lnSl I=some (.int .i64 e.kids.length):=d6.lnSl;have j7:tsize H As<=500:=hw.sz;have n8:small e:=size_small (by rw[hr.size];omega);have o0:e.kids.length<=100:=by
  have:Nd.size e=tsize H As:=hr.size;simp only[Nd.size]at this;omega
 obtain⟨O,d8⟩: ∃O,O=rep e.kids.length [AV.int .i64 (0:Nat), .int .i64 (0:Nat), .int .u64 (0:Nat)]:=⟨_,rfl⟩;have h9:O.length=e.kids.length*3:=by rw[d8];exact repN_len _ _
 have d9:mkSl 38 3 24 [.int .i64 (0:Nat), .int .i64 (0:Nat), .int .u64 (0:Nat)] (.int .i64 e.kids.length) (.int .i64 e.kids.length)=some (.cells O 38 3 false,fun E=> .slice E 0 e.kids.length (2*e.kids.length)):=by
  rw[d8];exact mkSl_ok _ _ _ _ (by omega) (by omega)
 obtain⟨Ad,dr,b7,T,g7,m7,n7⟩:=box s6.ok (.cells O 38 3 false);have N7:=T.next
 have P7:Prs H3 Ad:=p6.trans T;have w7:=w3.prs P7;have a9:=jY T s6.ok g6;have f37:Eng.ld1 (.ptr At 3) Ad=some I:=by rw[ld1_get a9];rfl
 have bl: ∀B,blkN (.agg [.bool e.leaf,ks,vs,I]) B->F B:=fun B m=>(root.pa B).2 (.inr (.inr (.inr ⟨_,j5,m⟩)))
 have s57:Stp (fun B=>B=At) H5 Ad:=s6.trans T.stp;have b0: ∀B,F B-> ¬B=At:=fun B m=>by have:=hP B m;omega
 have i0:Ptrs Ad I e.kids:=Rw.stp d6 s57 fun B m=>b0 B (bl B (blkN_mk.2 (.inr (.inr m))))
 have z8: ¬v dr:=fun x=>by have:=zl _ x;omega
 have q8: ¬F dr:=fun x=>by have:=hP _ x;omega
 obtain⟨H8,L,Z8,o1,j8,h7,qs,y,e8,w8,a8,o2,o8,o3,j9,z,g8⟩:=h6 Ad I (.ptr A4 0) (.ptr At 0) dr O w7 i0 (fun B m=>bl B (blkN_mk.2 (.inr (.inr m)))) g7 h9 z8 q8;have k0:AdT v h v Ad:=((AdT.prs P2).trans a3).prsR P7;have k1:AdT v h Z8 H8:=k0.dropR a8 (by omega);have N8:=a8.1.next
 have zs: ∀B,h.next<=B-> ¬v B:=fun B m x=>by have:=zl B x;omega
 obtain⟨k68,k3,o4⟩:=a8.keep (T.ok.lt a9) (fun x=>by rcases x with x | x;exact zs _ (by omega) x;omega);have e0:=k68.trans a9;have e1:=jY P7 w3.ti.ok j4;obtain⟨k48,k4,o5⟩:=a8.keep (T.ok.lt e1) (fun x=>by rcases x with x | x;exact zs _ (by omega) x;omega);have e2:=k48.trans e1;obtain⟨txg,e9,g9,left,n9⟩:=st_fld w8.ti.ok e0 (o:=3) (x:= .slice dr 0 e.kids.length (2*e.kids.length)) rfl (by simp);have q6: ¬F At:=fun x=>by have:=hP _ x;omega
 have w9:=w8.box left (fun x=>k3 (.inl x)) q6 e0;have k5:=k1.boxR left (by omega);have N9:=left.next
 have e3:txg.h.get dr=some (.cells (qs.flatMap ptrV) 38 3 false):=by rw[left.keep _ (w8.ti.ok.lt g8) (by omega)];exact g8
 obtain⟨S,M⟩: ∃S,S= { e with kids:=qs} :=⟨_,rfl⟩;have c4: ∀ {x:AV} {kk:Nat} {ll:List AV} {nn:Nat},Rw kk H5 x nn ll->(∀B,Blk x B->F B)->Rw kk txg x nn ll:=fun k6 hb=>
  Rw.stp (Rw.stp (Rw.stp k6 s57 fun B m=>b0 B (hb B m)) a8.1 fun B m x=>by
   rcases x with x | x
   .exact root.pr B (hb B m) x
   .exact q8 (x▸hb B m)) left fun B m=>b0 B (hb B m)
 have k7:NodeV txg (.agg [.bool e.leaf,ks,vs, .slice dr 0 e.kids.length (2*e.kids.length)]) S:=by
  refine⟨ks,vs,_,by rw[M], ?_, ?_, ?_⟩
  .rw[M];exact c4 h1.row fun B m=>bl B (blkN_mk.2 (.inl m))
  .rw[M];exact c4 h2.row fun B m=>bl B (blkN_mk.2 (.inr (.inl m)))
  .rw[M];refine⟨flat_len3 qs, .inr (.inr ⟨dr,0,2*e.kids.length,_,_,_,_,by simp only[j9],e3,w9.ti.ok.lt e3, ?_, ?_⟩)⟩
   .simp only[flat_len3];omega
   .simp only[yE];rw[zW (by rw[flat_len3];omega)]
 rw[<-M]at z;obtain⟨lo,hi,i1⟩:=hw.gen;have e4:=o8.used hu;have i2: ∀r∈y,Nd.kidOk r=true:=fun r u=>by
  obtain⟨x,hx⟩:=RepN.here z r u;exact(kidOk_K hx).1
 have k8:0<H->S.keys≠[]:=fun h0=>by
  cases H with
  | zero=>omega
  | succ H=>rw[z.2.1];exact hw.ne
 have b3:Nd.shaped ltS S=true:=z.shaped i1 k8 i2;have a5:Nd.size S<=500:=by rw[z.size];exact j7
 have i3:small S:=size_small (by omega);have c5: ∀r∈S.kids,r∈y:=fun r u=>by
  cases H with
  | zero=>obtain⟨P,_⟩:=z;rw[P]at u;simp[Nd.leafOf]at u
  | succ H=>exact z.2.2.2.kids r u
 have c6: ∀r∈S.kids,Nd.sumOk r:=fun r u=>by
  obtain⟨x,hx⟩:=RepN.here z r (c5 r u);obtain⟨a,birth,kind,body,rfl,_⟩:=jU.1 hx;exact⟨by simp[ptrB],by have:=sumS_lt2 (sealB kind birth body);simp only[ptrB];omega⟩
 obtain⟨k9,b5,a1⟩:=encode_ok (k2+1) n (by omega) hn w9.ti.ok k7 i3 c6;have h8:encR S=(Nd.encN S,0):=by simp only[encR,b3,if_true,if_pos a5]
 rw[h8]at b5;have a2:(Nd.encN S).length<=500:=by rw[Nd.encN_length b3];exact a5
 obtain⟨kind,G⟩: ∃kind:UInt8,kind=if S.leaf then 1 else 2:=⟨_,rfl⟩
 have l0:=w9.prs a1;obtain⟨o6,a0,b6⟩:=seal_ok (dy (k2+2)) n (by omega) a1.ok kind ht a2;obtain⟨B,m⟩: ∃B,B=sealB kind U (Nd.encN S):=⟨_,rfl⟩;have b8:=sealB_len (kind:=kind) (birth:=U) a2;rw[<-m]at a0 b8;obtain⟨Zb,e7⟩: ∃Zb:Str,Zb=List.replicate 512 0:=⟨_,rfl⟩;have l1:Zb.length=512:=by rw[e7];simp
 have f1:rep 512 [AV.int .u8 (0:Nat)]=bytesV Zb:=by rw[rep_row,e7]
 obtain⟨o7,o9,f2,b9,i4,p0,p3⟩:=box b6.ok (.cells (bytesV Zb) 144 1 false);obtain⟨f5,f6,i5,f7⟩:=stR b9.ok i4 l1 b8;have p8:=a1.next;have p9:=b6.next;have q0:=b9.next;have q1:=f7.next
 have c0:Prs txg f5:=((a1.trans b6).trans b9).fresh f7 fun B m=>by omega
 have f8:=ldR i5 b8;have f9:=w9.prs c0;obtain⟨l3,la,g0,c1,j2,jn,j0,c2,g3⟩:=wput_ok k2 n (by omega) (by omega) f9 kind ht a2 (by have:=o8.ct;show 0<cnt j8 0 q.nb;omega);rw[<-m]at c1 c2;have c7:f5.h.get A4=_:=jY c0 w9.ti.ok ((left.keep A4 (w8.ti.ok.lt e2) (by omega)).trans e2);obtain⟨i6,i7,m3⟩:=g3.keep (f9.ti.ok.lt c7) (fun x=>k4 (.inl x));have c8:=i6.trans c7;obtain⟨a4,l4,l5,g5,q2⟩:=st_all c2.ti.ok c8 (l':=ptrV (ptrB la U B)) rfl rfl;have c9:stN 3 (.ptr A4 0) (.agg (ptrV (ptrB la U B))) l3=some (undefA,a4):=l4;have q4: ¬F A4:=fun x=>by have:=hP _ x;omega
 have l6:=c2.box g5 i7 q4 c8;have h4:ldN 3 (.ptr A4 0) a4=some (.agg (ptrV (ptrB la U B))):=ldN_all l5 rfl;have aF:AdT v h g0 a4:=((k5.prsR c0).trans g3).boxR g5 (by omega);have oF:=o8.put (s:=j) (birth:=U) (b:=B) j2 jn j0;have l7: ∀r∈y,blkAt r.at_.toNat (L++[(la,B)])=blkAt r.at_.toNat L:=fun r u=>by
  rw[blkAt_snoc,if_neg fun P:la=_=>(e4 r u).2 (by rw[<-P];exact j0)]
 have l8:RepN (Ev.K { q with ws:=L++[(la,B)] }) H S As y:=z.mono fun r u q3 h2=>Ev.K_keep (E:= { q with ws:=L}) h2 (l7 r u)
 have l9:decide (kind=1)=S.leaf:=by rw[G];cases S.leaf<;>rfl
 have i8:Nd.decN ltS (decide (kind=1)) (Nd.encN S)=some S:=by
  rw[l9];exact Nd.decN_encN (by simp only[Nd.may,b3,Bool.true_and,zU];exact a5) c6
 have m0:Ev.K { q with ws:=L++[(la,B)] } (ptrB la U B)=some S:=by
  refine jU.2 ⟨la,U,kind,Nd.encN S,by rw[m],j2,jn,⟨by have:=root.nb.2.1;have:la<q.nb:=jn;omega,fun r u=>(e4 r (c5 r u)).1⟩,ht,a2, ?_,by rw[G];cases S.leaf<;>simp,i8⟩;show blkAt la (L++[(la,B)])=_;rw[blkAt_snoc,if_pos rfl,m]
 refine⟨a4,_,g0,la,_,ptrB la U B,S,y,h7, ?_,l6,aF,oF,by rw[cp_cons];simp only[pp,if_true];omega,m0,l8⟩;obtain⟨On,Nw,wv,ds,tv,ov,nt,q5,ol,dk,gw,_⟩:=l0.gw;have fw:Eng.ld1 (.ptr A 2) k9=some (.int .i64 U):=by rw[ld1_get gw];rfl
 have f0:Eng.ld1 (.ptr At 0) txg=some (.bool e.leaf):=by rw[ld1_get g9];rfl
 have f4:ldN 4 (.ptr At 0) txg=some (.agg [.bool e.leaf,ks,vs, .slice dr 0 e.kids.length (2*e.kids.length)]):=ldN_all g9 rfl;have i9:S.leaf=e.leaf:=by rw[M]
 rw[i9]at G;have h5: ¬(((0:Nat):Int)≠((0:Nat):Int)):=by omega
 have t11: ¬(((1:Nat):Int)≠((1:Nat):Int)):=by omega
 have wi:((V+1:Nat):Int) - ((1:Nat):Int)=(V:Int):=by omega
 have tl: ¬(V:Int)< ((0:Nat):Int):=by omega
 have q7:=root.lf;have wl:IntKind.wrap .i64 (V:Int)=(V:Int):=wrap_i64 (by omega) (by omega)
 cases hc:e.leaf with
 | true=>
  rw[hc]at G f0;have c3:(kind.toNat:Int)=((1:Nat):Int):=by rw[G];rfl
  rw[c3]at a0;simp(maxSteps:=999999)(disch:=omega) only[f79,eZ,b1,b2,r2,t11,d1,wi,wl,d2,d3,tl,d4,r3,b4,e5,pExtract,nth,d5,h5,f3,d7,d9,b7,f37,e8,f79b2,e9,f0,f79j1,f4,b5,fw,a0,f1,f2,f6,f8,c1,c9,h4]
 | false=>
  rw[hc]at G f0;have c3:(kind.toNat:Int)=((2:Nat):Int):=by rw[G];rfl
  rw[c3]at a0;simp(maxSteps:=999999)(disch:=omega) only[f79,eZ,b1,b2,r2,t11,d1,wi,wl,d2,d3,tl,d4,r3,b4,e5,pExtract,nth,d5,h5,f3,d7,d9,b7,f37,e8,f79b2,e9,f0,f79j1,f4,b5,fw,a0,f1,f2,f6,f8,c1,c9,h4]
open Go.Nd (Kvs)
theorem RepN.disk {E:Ev}{q:PN} : ∀ {h:Nat} {f:Nd.Node} {t:Bt.Tr h} {S:List Ptr},RepN (Qf E q []) h f t S->(∀r∈f.kids,r.at_≠1)->RepN E.K h f t S/\ ∀r∈S,r.at_≠1
 | 0,f,t,S,w,_=>⟨w,by rw[w.2];simp⟩
 | h+1,f,t,S,⟨a,b,c,w⟩,hk=>by
  have key: ∀(i:List Ptr) (ts:List (Bt.Tr h)) (S:List Ptr),RepL (Qf E q []) (RepN (Qf E q []) h) i ts S->(∀r∈i,r.at_≠1)->RepL E.K (RepN E.K h) i ts S/\ ∀r∈S,r.at_≠1:=by
   intro i
   induction i with
   | nil=>
    intro ts S w _
    cases ts with
    | nil=>have e:S=[]:=w;subst e;exact⟨rfl,by simp⟩
    | cons _ _=>exact w.elim
   | cons p i ih=>
    intro ts S w hp
    cases ts with
    | nil=>exact w.elim
    | cons t ts=>
     obtain⟨f,y,u,z,hr,C,rfl⟩:=w;have o:=hp p (zH ..);obtain⟨s,rfl,_⟩ | ⟨_,v⟩:=Qf_inv z
     .exact absurd rfl o
     .obtain⟨_,_,_,_,_,_,_,⟨_,x⟩,_⟩:=jU.1 v;obtain⟨j,m⟩:=RepN.disk hr x;obtain⟨h3,F⟩:=ih ts u C fun r hr=>hp r (zC _ hr)
      refine⟨⟨f,y,u,v,j,h3,rfl⟩,fun r hr=> ?_⟩;rcases zM.1 hr with rfl | hr
      .exact o
      .rcases zZ.1 hr with e | e
       .exact m r e
       .exact F r e
  obtain⟨j,m⟩:=key f.kids t.2 S w hk;exact⟨⟨a,b,c,j⟩,m⟩
theorem wdisk{E:Bt.Tr H}
  (la:Wr q h A t C J Q .nP U V f k w l s j p v F) (m:q.K r=some e) (hr:RepN (Qf q s []) H e E i):
  ∃H' ws' es la' y o z G root,f79 D n [.ptr A 0, .agg (ptrV r)] h=some (.tuple [.agg (ptrV o), .int .i64 (0:Nat)],H')/\Wr { q with ws:=ws'} H' A t C J Q .nP U root la' y w l s j p es F/\AdT v h es H'/\WOut q.nb q.ws ws' k y (r::i) (o::G)/\root+cp (r::i)=V/\Ev.K { q with ws:=ws'} o=some z/\RepN (Ev.K { q with ws:=ws'}) H z E G:=by
 have O:=la.ti.ok;obtain⟨H1,I,b1,a,M,m1,n1⟩:=box O (.cells (ptrV r) 38 1 false);obtain⟨is,A4,b2,u,T,m2,n2⟩:=box a.ok (.cells [.int .i64 (0:Nat), .int .i64 (0:Nat), .int .u64 (0:Nat)] 38 1 false);obtain⟨left,Ad,txg,W,n3⟩:=st_all u.ok T (l':=ptrV r) rfl rfl;have L:stN 3 (.ptr A4 0) (.agg (ptrV r)) is=some (undefA,left):=Ad;have N1:=a.next
 have At:Prs h left:=(a.trans u).fresh W fun B hB=>by omega
 have As:=jY u a.ok M;have Y:Eng.ld1 (.ptr I 0) is=some (.int .i64 r.at_):=by rw[ld1_get As];rfl
 have r2:ldN 3 (.ptr I 0) is=some (.agg (ptrV r)):=ldN_all As rfl;have r3:ldN 3 (.ptr A4 0) left=some (.agg (ptrV r)):=ldN_all txg rfl;have h2:=(kidOk_K m).2;have t1:(r.at_≠((1:Nat):Int))=True:=eq_true (by omega);obtain⟨_,_,_,_,_,_,_,⟨_,N⟩,_⟩:=jU.1 m;obtain⟨hd,hS⟩:=RepN.disk hr N;have x: ∀last∈r::i,last.at_≠1:=fun last hr=>by
  rcases zM.1 hr with rfl | hr
  .omega
  .exact hS last hr
 have c:cp (r::i)=0:=by
  rw[cp,List.length_eq_zero_iff];exact List.filter_eq_nil_iff.2 fun r hp=>by simpa using x r hp
 refine⟨left,q.ws,v,f,k,r,e,i,V, ?_,la.prs At,AdT.prs At,WOut.nil _ _ _ x,by omega,m,hd⟩;simp(maxSteps:=999999)(disch:=omega) only[f79,eZ,b1,b2,Y,t1,r2,L,r3]
theorem wnode_ok: ∀h,WNode h:=by
 intro h
 induction h with
 | zero=>
  unfold WNode;intro E H Aw As At M Ad txg left la is root es q last dr Z P k n p i t S hk u w F hr j v V W y;rcases Qf_inv F with⟨s,rfl,f | ⟨_,f⟩⟩ | ⟨_,G⟩
  .simp[lookN]at f
  .have hc:cp (pp s::S)=1+cp S:=by rw[cp_cons];simp[pp]
   obtain⟨left,rfl⟩: ∃l,left=l+1:=⟨left - 1,by omega⟩;refine wcore k n (by omega) u w f hr j (by omega) (fun r hr=>v r (zC _ hr)) y fun I kv x4 x6 A8 O z L N C o J Q=> ?_
   obtain⟨rfl,rfl⟩:=hr;have a6:(Nd.leafOf t).kids=[]:=rfl;have K:(Nd.leafOf t).kids.length=0:=rfl;obtain⟨n,rfl⟩: ∃m,n=m+1:=⟨n - 1,by omega⟩;refine⟨I,E.ws,Z,la,is,left,[],[], ?_,z,AdT.prs (jV z.ti.ok),J,WOut.nil _ _ _ (by simp),by simp[cp],rfl,⟨rfl,rfl⟩, ?_⟩
   .rw[K];exact loop_exit (by simp only[f79l0,eZ,yA])
   .rw[K,Nat.zero_mul]at o;rw[zR o]at C;exact C
  .exact wdisk (dy k) n w G hr
 | succ h ih=>
  unfold WNode;intro E H Aw As At M Ad txg left la is root es q last dr Z P k n p i t S hk u w F hr j v V W y;rcases Qf_inv F with⟨s,rfl,f | ⟨_,f⟩⟩ | ⟨_,G⟩
  .simp[lookN]at f
  .have hc:cp (pp s::S)=1+cp S:=by rw[cp_cons];simp[pp]
   obtain⟨left,rfl⟩: ∃l,left=l+1:=⟨left - 1,by omega⟩;obtain⟨k,rfl⟩: ∃k',k=k'+1:=⟨k - 1,by omega⟩;have Y:Nd.size i<=500:=by rw[hr.size];exact j.sz
   have a7:i.kids.length<=100:=by simp only[Nd.size]at Y;omega
   refine wcore (k+1) n (by omega) u w f hr j (by omega) (fun r hr=>v r (zC _ hr)) y fun I kv x4 x6 A8 O z L N C o J Q=> ?_
   obtain⟨a,b,c,T⟩:=hr;obtain⟨H8,a0,Z8,a1,a2,U,qs,S',e8,w8,a8,a3,o8,a4,hR,a5⟩:=wkids ih k n (by omega) u (x4:=x4) (x6:=x6) (cc:=2*i.kids.length) y rfl (by omega) i.kids t.2 S [] E I Z left la is n O z T (fun x hx=>j.kid hx) (fun r hr=>v r (zC _ hr)) (by omega) (by omega) (by omega) L N rfl (by simp) C o J Q;exact⟨H8,a0,Z8,a1,a2,U,qs,S',e8,w8,a8,a3,o8,a4,by rw[hR.len,T.len],⟨a,b,c,hR⟩,a5⟩
  .exact wdisk (dy k) n w G hr
theorem nodup_le: ∀ {l m:List Nat},l.Nodup->(∀x∈l,x∈m)->l.length<=m.length
 | [],_,_,_=>Nat.zero_le _
 | x::l,m,h,hs=>by
  obtain⟨f,hl⟩:=List.nodup_cons.1 h;have:=nodup_le (m:=m.erase x) hl fun y a=>(List.mem_erase_of_ne fun e:y=x=>f (e▸a)).2 (hs y (zC _ a))
  have hm:=hs x (zH ..);have i:=List.length_erase_of_mem hm;have h3:=List.length_pos_of_mem hm;rw[zV];omega
theorem cp_pend {E:Ev} : ∀ {T:List Ptr},T.Nodup->(∀r∈T,∃o,Qf E s [] r=some o)->cp T<=s.length:=by
 intro T t i;have v:((T.filter fun p=>decide (p.at_=1)).map fun p=>p.sum.toNat).Nodup:=by
  rw[List.nodup_iff_pairwise_ne,List.pairwise_map];refine(List.nodup_iff_pairwise_ne.1 (t.filter _)).imp_of_mem fun {a b} z hb m e=>m ?_
  obtain⟨C,F⟩:=List.mem_filter.1 z;obtain⟨b1,b2⟩:=List.mem_filter.1 hb;obtain⟨x,j⟩:=i a C;obtain⟨y,G⟩:=i b b1;have I: ∃q,a=pp q:=by
   obtain⟨q,e,_⟩ | ⟨_,f⟩:=Qf_inv j
   .exact⟨q,e⟩
   .have:=(kidOk_K f).2;simp at F;omega
  have J: ∃q,b=pp q:=by
   obtain⟨q,e,_⟩ | ⟨_,f⟩:=Qf_inv G
   .exact⟨q,e⟩
   .have:=(kidOk_K f).2;simp at b2;omega
  obtain⟨q,rfl⟩:=I;obtain⟨u,rfl⟩:=J;have K:q=u:=by simpa[pp]using e
  rw[K]
 have L: ∀q∈(T.filter fun p=>decide (p.at_=1)).map fun p=>p.sum.toNat,q∈s.map (·.1):=fun q M=>by
  obtain⟨r,hr,rfl⟩:=qM.1 M;obtain⟨N,O⟩:=List.mem_filter.1 hr;obtain⟨x,j⟩:=i r N;obtain⟨u,rfl,h | ⟨_,h⟩⟩ | ⟨_,f⟩:=Qf_inv j
  .simp[lookN]at h
  .have:(pp u).sum.toNat=u:=by simp[pp]
   rw[this];exact qM.2 ⟨_,lookN_some_mem h,rfl⟩
  .have:=(kidOk_K f).2;simp at O;omega
 have h3:=nodup_le v L;simpa[cp]using h3
def Dsk (H:AH)(Ad As nb:Nat)(a:Ws)(la:Nat)(is:Nat->Nat)(V:Nat->Prop):Prop:= ∃On Nw wv ds,DkI H Ad nb a On Nw wv ds/\Spc H As nb la is/\(∀B,V B↔B=As\/B=Ad\/B=Nw\/Blk wv B)/\64<=nb/\nb<=8192/\la<nb/\(2<=la\/la=0)/\(is 0≠0/\is 1≠0)/\a.length+cnt is 0 nb<=990000
theorem Dsk.prs {H H':AH}{Ad As nb la:Nat}{a:Ws}{is:Nat->Nat}{V:Nat->Prop}(d:Dsk H Ad As nb a la is V)(f:H.ok)(s:Prs H H'):Dsk H' Ad As nb a la is V:=by
 obtain⟨On,Nw,wv,ds,h,i,r⟩:=d;exact⟨On,Nw,wv,ds,h.prs f s,i.stp f s (fun x=>x),r⟩
theorem Dsk.lt {H:AH}{Ad As nb la:Nat}{h:Ws}{is:Nat->Nat}{V:Nat->Prop}(d:Dsk H Ad As nb h la is V)(a:H.ok): ∀B,V B->B<H.next:=by
 obtain⟨On,Nw,wv,ds,f,i,j,_⟩:=d;intro B m;rcases(j B).1 m with rfl | rfl | rfl | e
 .exact i.lt a
 .exact a.lt f.gD
 .exact a.lt f.gN
 .exact Own.lt f.ow e
theorem Pend.node {H:AH} : ∀ {es:List (AV×AV)} {q:PN},Pend H es q-> ∀kv∈es,∃f,NodeG H kv.2 f
 | [],[],_=>fun _ h=>by simp at h
 | (k,v)::es,(s,f)::q,h=>fun kv a=>by
  rcases zM.1 a with rfl | a
  .exact⟨f,h.1.2⟩
  .exact Pend.node h.2 kv a
 | [],_::_,h=>h.elim
 | _::_,[],h=>h.elim
theorem tree_dsk (f:TI q h H A p P w l s U g)(ds:Dsk h t C Q B J k v): ∀la,(la=H\/la=A\/Blk g la\/ ∃kv∈l,blkN kv.2 la)-> ¬v la:=by
 obtain⟨On,Nw,wv,O,j,z,M,_⟩:=ds;obtain⟨nb,F,At,d,_⟩:=z;have G:=f.gT;have key: ∀(o:AObj),NoRow o->(∀y m last,o≠ .cells y m 3 last)->o≠ .cells (treeC p P w A U g) 82 1 false->o≠ .map [10] l-> ∀la,h.h.get la=some o-> ¬(la=H\/la=A\/Blk g la\/ ∃kv∈l,blkN kv.2 la):=by
  intro o I Ad K L la a E;rcases E with rfl | rfl | E | ⟨kv,u,E⟩
  .rw[G]at a;exact K (y0 a).symm
  .rw[f.gM]at a;exact L (y0 a).symm
  .exact jR f.dg a (fun m last=>Ad _ m last) E
  .obtain⟨As,c⟩:=f.pq.node kv u;exact c.nblk a I E
 intro la i N;rcases(M la).1 N with rfl | rfl | rfl | E
 .obtain⟨x,r,e⟩: ∃x r,nb=x::r:=by
   cases nb with
   | nil=>simp at At
   | cons x r=>exact⟨x,r,rfl⟩
  subst e;simp only[List.getElem?_cons_zero,zB]at d;subst d;exact key _ (.inl ⟨_,r,_,_,rfl,fun _ _ E=>by cases E⟩) (by simp) (by simp) (by simp) _ F i
 .exact key _ (.inl ⟨_,_,_,_,rfl,fun _ _ E=>by cases E⟩) (by simp) (by simp) (by simp) _ j.gD i
 .exact key _ (.inr (.inl ⟨_,_,rfl⟩)) (by simp) (by simp) (by simp) _ j.gN i
 .exact key _ (.inr (.inr ⟨_,_,513,_,rfl,by omega,by omega⟩)) (by simp) (by simp) (by simp) _ (j.ow.get E) i
theorem wr_new (As:TI q h A t (.ptr C 0) .nP w l s f p)(ds:Dsk h C J q.nb q.ws Q k v)(m:Prs h Y)(j:Y.h.get H=some (.cells [.ptr A 0, .ptr J 0, .int .i64 U, .int .i64 V, .nS, .nS] 141 1 false))(S:h.next<=H)(hl:V<=1000000000):
  Wr q Y H J A t C .nP U V Q k w l s f p (fun B=>B=H\/v B) (fun B=>B=A\/B=t\/Blk p B\/ ∃kv∈l,blkN kv.2 B):=by
 have i:=As.ok;have O:=ds.prs i m;have left:=tree_dsk As ds;have M:=ds.lt i;obtain⟨On,Nw,wv,F,a,la,txg,b1,b2,G,I,At,K⟩:=ds;have y:=a.prs i m;refine⟨As.prs m,la.stp i m fun x=>x,K,⟨On,Nw,wv,F, .nS, .nS,0,[],[],y,j,kB ..,kB ..,Nat.zero_le _,fun B=> ?_, ?_⟩,fun B o L=> ?_,fun B=>Iff.rfl,I,⟨b1,b2,G⟩,At,hl⟩
 .have N:Blk .nS B↔False:=jZ;rw[txg B,N];constructor
  .rintro(E | E | E | E | E)
   .exact .inl E
   .exact .inr (.inl E)
   .exact .inr (.inr (.inl E))
   .exact .inr (.inr (.inr (.inl E)))
   .exact .inr (.inr (.inr (.inr (.inl E))))
  .rintro(E | E | E | E | E | E | E)
   .exact .inl E
   .exact .inr (.inl E)
   .exact .inr (.inr (.inl E))
   .exact .inr (.inr (.inr (.inl E)))
   .exact .inr (.inr (.inr (.inr E)))
   .exact E.elim
   .exact E.elim
 .have T:=i.lt a.gO
  rintro(e | hv)
  .omega
  .rcases(txg On).1 hv with e | e | e | e
   .obtain⟨Ad,u,_⟩:=la;rw[<-e,a.gO]at u;cases u
   .have:=a.gD;rw[<-e,a.gO]at this;cases this
   .exact a.ne e
   .have:=a.ow.get e;rw[a.gO]at this;cases this
 .rcases L with e | e
  .have hold:B<h.next:=by
    rcases o with rfl | rfl | E | ⟨kv,z,E⟩
    .exact i.lt As.gT
    .exact i.lt As.gM
    .exact As.dg.lt E
    .exact As.pq.old kv z B E
   omega
  .exact left B o e
theorem write_ok (m n:Nat)(hm:400000000<=m)(hn:200000000<=n){E:Ev}{txg:Nat}{kv:Kvs}(L:TreeX (.ptr C 0) .nP E h H A t v w s kv i)(ds:Dsk h C J E.nb E.ws Q k F)(hu: ∀r∈i,r.at_≠1->k r.at_.toNat≠0)(I:1<=txg)(h2:txg<=2147483647)(d5:kv.length<=1000000000):
  ∃H',(cnt k 0 E.nb<s.length/\f37 (dy m) n [.ptr H 0, .ptr J 0, .int .i64 txg] h=some (.tuple [.agg [.int .i64 (0:Nat), .int .i64 (0:Nat), .int .u64 (0:Nat)], .nS, .int .i64 (3:Nat)],H')/\Prs h H')\/
   (s.length<=cnt k 0 E.nb/\ ∃ws' c1 la' V' b7 T' M' W' dr,f37 (dy m) n [.ptr H 0, .ptr J 0, .int .i64 txg] h=some (.tuple [.agg (ptrV b7),dr, .int .i64 (0:Nat)],H')/\TreeX (.ptr C 0) .nP { E with ws:=ws',dl:=[] } H' H M' t W' b7 [] kv T'/\Dsk H' C J E.nb ws' la' c1 V'/\WOut E.nb E.ws ws' k c1 i T'/\AdT (fun B=>v B\/F B) h (fun B=>W' B\/V' B) H'/\Rw 3 H' dr E.dl.length (E.dl.flatMap ptrV)/\ ∀B,Blk dr B-> ¬W' B/\ ¬V' B/\v B):=by
 obtain⟨dr,es,last,hc,z,i6,i7,d6,i8,hr,hW⟩:=L;have hk:=z.ok;obtain⟨H1,W,b1,Ad,g1,m1,n1⟩:=box hk (.cells [.int .i64 (0:Nat), .int .i64 (0:Nat), .int .u64 (0:Nat)] 38 1 false);have N1:=Ad.next
 have a9:=z.prs Ad;have c2:=none_ok (dy m) n a9;obtain⟨c8,gS,_⟩: ∃c,h.h.get J=some (.cells c 137 1 false)/\True:=by
  obtain⟨_,_,_,_,_,sp,_⟩:=id ds;obtain⟨c,g⟩:=sp.bk;exact⟨c,g,trivial⟩
 have d7:Spc H1 J E.nb Q k:=by
  obtain⟨_,_,_,_,_,sp,_⟩:=id (ds.prs hk Ad);exact sp
 have b9:=sfree_ok (dy m) n d7;have c3:Eng.ld1 (.ptr H 5) H1=some (.map A):=by rw[ld1_get a9.gT];rfl
 have c4:lnMap (.map A) H1=some (.int .i64 s.length):=by
  simp only[lnMap,a9.gM,fN_eq,a9.pq.len];rfl
 have t1: ¬(txg:Int)< ((1:Nat):Int):=by omega
 have t2: ¬((2147483647:Nat):Int)< (txg:Int):=by omega
 have ck: ∀K:Rs,chk (some (.map A)) (.map A) K=K:=fun K=>chk_ok rfl (by simp[aveq])
 have z6:ldN 3 (.ptr W 0) H1=some (.agg [.int .i64 (0:Nat), .int .i64 (0:Nat), .int .u64 (0:Nat)]):=ldN_all g1 rfl;have d8:bldS [(0,1),(1,1),(2,1)] [.int .i64 (0:Nat), .int .i64 (0:Nat), .int .u64 (0:Nat)] []=some (.agg [.int .i64 (0:Nat), .int .i64 (0:Nat), .int .u64 (0:Nat)]):=rfl;rcases Nat.lt_or_ge (cnt k 0 E.nb) s.length with d9 | e0
 .obtain⟨y,e2,g2,s2,n2⟩:=st_all Ad.ok g1 (l':=[.int .i64 (0:Nat), .int .i64 (0:Nat), .int .u64 (0:Nat)]) rfl rfl;have e1:stN 3 (.ptr W 0) (.agg [.int .i64 (0:Nat), .int .i64 (0:Nat), .int .u64 (0:Nat)]) H1=some (undefA,y):=e2;have r2:ldN 3 (.ptr W 0) y=some (.agg [.int .i64 (0:Nat), .int .i64 (0:Nat), .int .u64 (0:Nat)]):=ldN_all g2 rfl;have tl:((cnt k 0 E.nb:Nat):Int)< (s.length:Int):=by omega
  refine⟨y, .inl ⟨d9, ?_,Ad.fresh s2 fun B f=>by omega⟩⟩;simp(maxSteps:=999999)(disch:=omega) only[f37,eZ,b1,c2,cq,t1,t2,c3,b9,ck,c4,tl,d8,e1,r2]
 .have tl: ¬((cnt k 0 E.nb:Nat):Int)< (s.length:Int):=by omega
  obtain⟨y,Aw,b2,p2,g2,m2,n2⟩:=box Ad.ok (.cells [.ptr H 0, .ptr J 0, .int .i64 txg, .int .i64 s.length, .nS, .nS] 141 1 false);have N2:=p2.next
  have P2:=Ad.trans p2;have la:=wr_new z ds P2 g2 (by omega) z.few;have e4:bldS [(0,1),(1,1),(2,1),(3,1),(4,1),(5,1)] [.nP, .nP, .int .i64 (0:Nat), .int .i64 (0:Nat), .nS, .nS] [(0, .ptr H 0),(1, .ptr J 0),(2, .int .i64 txg),(3, .int .i64 s.length)]=some (.agg [.ptr H 0, .ptr J 0, .int .i64 txg, .int .i64 s.length, .nS, .nS]):=rfl;have e8:=la.ti.gT;have rT:ldN 3 (.ptr H 2) y=some (.agg (ptrV w)):=ldN_ptr e8 (by simp[treeC]);have i9:cp i<=s.length:=by
   rcases hr with⟨_,_,rfl⟩ | ⟨At,nd,tr,S,k1,k2,k3,k4,k5,rfl⟩
   .exact Nat.zero_le _
   .refine cp_pend (E:=E) k4 fun r hr=> ?_
    rcases zM.1 hr with rfl | hr
    .exact⟨nd,k1⟩
    .exact RepN.here k2 r hr
  have node: ∃As V u a0 Z j T3 a7,f79 (dy m) n [.ptr Aw 0, .agg (ptrV w)] y=some (.tuple [.agg (ptrV j), .int .i64 (0:Nat)],As)/\Wr { E with ws:=V} As Aw J H A C .nP txg a7 a0 Z w es s last dr u (fun B=>B=H\/B=A\/Blk dr B\/ ∃kv∈es,blkN kv.2 B)/\AdT (fun B=>B=Aw\/F B) y u As/\WOut E.nb E.ws V k Z i T3/\RootIs { E with ws:=V,dl:=[] } [] j kv T3:=by
   rcases hr with⟨rfl,rfl,rfl⟩ | ⟨At,nd,tr,S,k1,k2,k3,k4,k5,rfl⟩
   .obtain⟨As,A3,b3,p3,g3,m3,n3⟩:=box la.ti.ok (.cells (ptrV pZ) 38 1 false);obtain⟨H4,A4,b4,U,g4,m4,n4⟩:=box p3.ok (.cells [.int .i64 (0:Nat), .int .i64 (0:Nat), .int .u64 (0:Nat)] 38 1 false);obtain⟨T,e5,g5,s5,n5⟩:=st_all U.ok g4 (l':=ptrV pZ) rfl rfl;have b0:stN 3 (.ptr A4 0) (.agg (ptrV pZ)) H4=some (undefA,T):=e5;have N3:=p3.next
    have P5:Prs y T:=(p3.trans U).fresh s5 fun B f=>by omega
    have c5:=jY U p3.ok g3;have r1:Eng.ld1 (.ptr A3 0) H4=some (.int .i64 (0:Nat)):=by rw[ld1_get c5];rfl
    have r2:ldN 3 (.ptr A3 0) H4=some (.agg (ptrV pZ)):=ldN_all c5 rfl;have r3:ldN 3 (.ptr A4 0) T=some (.agg (ptrV pZ)):=ldN_all g5 rfl;have f1:(((0:Nat):Int)≠((1:Nat):Int))=True:=eq_true (by omega);refine⟨T,E.ws,_,Q,k,pZ,[],s.length, ?_,la.prs P5,AdT.prs P5,WOut.nil _ _ _ (by simp), .inl ⟨rfl,rfl,rfl⟩⟩;simp(maxSteps:=999999)(disch:=omega) only[f79,eZ,b3,b4,r1,f1,r2,b0,r3]
   .have i3:=k3.low (by rw[k5];exact d5);obtain⟨As,V,u,a0,Z,p',f2,S',a7,e3,w3,Y,o3,l3,K3,R3⟩:=wnode_ok At m n (by omega) hn la k1 k2 (.inr k3) hu (by omega) (by omega) h2;refine⟨As,V,u,a0,Z,p',p'::S',a7,e3,w3,Y,o3, .inr ⟨At,f2,tr,S', ?_, ?_,k3, ?_,k5,rfl⟩⟩
    .have hd:=(o3.used hu p' (zH ..)).1;rw[Qf_disk fun root e=>hd (by rw[e];rfl)];exact jU.2 (jU.1 K3)
    .refine R3.mono fun r f3 j0 f4=> ?_
     have hd:=(o3.used hu r (zC _ f3)).1;rw[Qf_disk fun root e=>hd (by rw[e];rfl)];exact jU.2 (jU.1 f4)
    .obtain⟨i4,pm,f5,_,hn⟩:=o3.pm;rw[pm.nodup_iff];refine List.nodup_append.2 ⟨k4.filter _,f5,fun a ha b hb e=> ?_⟩;subst e;obtain⟨a1,a2⟩:=dsk_mem.1 ha;exact hu a a1 a2 (hn a hb).2.1
  obtain⟨As,V,u,a0,Z,j,T3,a7,e3,w3,Y,o3,f6⟩:=node;have N3:=Y.1.next
  obtain⟨H4,b5,b4,U,g4,m4,n4⟩:=box w3.ti.ok (.cells [.int .i64 (0:Nat), .int .i64 (0:Nat), .int .u64 (0:Nat)] 38 1 false);obtain⟨T,e5,g5,s5,n5⟩:=st_all U.ok g4 (l':=ptrV j) rfl rfl;have b0:stN 3 (.ptr b5 0) (.agg (ptrV j)) H4=some (undefA,T):=e5;have N4:=U.next
  have P5:Prs As T:=U.fresh s5 fun B f=>by omega
  have p:=w3.prs P5;have f7:ldN 3 (.ptr b5 0) T=some (.agg (ptrV j)):=ldN_all g5 rfl;have N:=p.ti.gT;have x1:Eng.ld1 (.ptr H 1) T=some .nP:=by rw[ld1_get N];rfl
  have x7:Eng.ld1 (.ptr H 7) T=some dr:=by rw[ld1_get N];rfl
  have lT:=hk.lt z.gT;have e6:=stN_ok (o:=2) (n:=3) (x:= .agg (ptrV j)) N (by decide) rfl rfl (by simp[treeC]);have g6:(T.put H (.cells (treeC (.ptr C 0) .nP j A last dr) 82 1 false)).h.get H=some (.cells (treeC (.ptr C 0) .nP j A last dr) 82 1 false):=by rw[jO,if_pos rfl]
  have c6:stN 3 (.ptr H 2) (.agg (ptrV j)) T=some (undefA,T.put H (.cells (treeC (.ptr C 0) .nP j A last dr) 82 1 false)):=e6;have a4:Stp (fun B=>B=H) T (T.put H (.cells (treeC (.ptr C 0) .nP j A last dr) 82 1 false)):=(jV p.ti.ok).put (p.ti.ok.lt N) _ (.inr rfl);generalize T.put H (.cells (treeC (.ptr C 0) .nP j A last dr) 82 1 false)=H6 at c6 g6 a4;obtain⟨H7,e7,g7,s7,n7⟩:=st_fld a4.ok g6 (o:=7) (x:= .nS) rfl (by simp[treeC]);have f8:H7.h.get H=some (.cells (treeC (.ptr C 0) .nP j A last .nS) 82 1 false):=g7;obtain⟨H8,M',b8,p8,g8,m8,n8⟩:=box s7.ok (.map [10] []);have f9:=jY p8 s7.ok f8;obtain⟨H9,e9,g9,s9,n9⟩:=st_fld p8.ok f9 (o:=5) (x:= .map M') rfl (by simp[treeC]);have g0:H9.h.get H=some (.cells (treeC (.ptr C 0) .nP j M' last .nS) 82 1 false):=g9;have N6:=a4.next;have N7:=s7.next;have N8:=p8.next;have N9:=s9.next
  have j1:=la.lt;have kb: ∀ {M:Nat} {o:AObj},H1.h.get M=some o->h.next<=M->M<y.next->M≠Aw->T.h.get M=some o:=fun {M o} g ha hb a5=>by
   have c7:=jY p2 Ad.ok g;have nz: ¬(M=Aw\/F M):=fun x=>by
    rcases x with x | x
    .exact a5 x
    .have:=ds.lt hk M x;omega
   rw[P5.keep M (by omega) (fun x=>x),(Y.keep (la.ti.ok.lt c7) nz).1];exact c7
  have a6:=kb g1 (by omega) (by omega) (by omega);have b6: ∀ {M:Nat} {o:AObj},T.h.get M=some o->M≠H->M<T.next->H9.h.get M=some o:=fun {M o} g a5 hl=>by
   rw[s9.keep M (by omega) a5,p8.keep M (by omega) (fun x=>x),s7.keep M (by omega) a5,a4.keep M hl a5];exact g
  have h0:=b6 a6 (by omega) (p.ti.ok.lt a6);have d1:=b6 g5 (by omega) (by omega);have d2:ldN 3 (.ptr b5 0) H9=some (.agg (ptrV j)):=ldN_all d1 rfl;obtain⟨O,h4,h5,G,j2⟩:=st_all s9.ok h0 (l':=ptrV j) rfl rfl;have d3:stN 3 (.ptr W 0) (.agg (ptrV j)) H9=some (undefA,O):=h4;have r6:ldN 3 (.ptr W 0) O=some (.agg (ptrV j)):=ldN_all h5 rfl;have j3:=G.next
  have h6: ¬(((0:Nat):Int)≠((0:Nat):Int)):=by omega
  have h7:mkM [10]=some (.map [10] [],fun M=> .map M):=rfl;obtain⟨On,Nw,wv,dm,tv,ov,nt,j4,ol,dk,gw,ot,oo,j5,hZ,hO⟩:=p.gw;have tP: ∀B,(B=H\/B=A\/Blk dr B\/ ∃kv∈es,blkN kv.2 B)-> ¬u B:=w3.pr;have h8: ∀B,u B-> ¬B=H:=fun B f e=>tP H (.inl rfl) (e▸f)
  have l6:W<y.next:=by omega
  have h9: ¬u W:=(Y.keep (la.ti.ok.lt (jY p2 Ad.ok g1)) (fun x=>by rcases x with x | x;omega;have:=ds.lt hk W x;omega)).2.1;have j6: ∀B,u B->B<T.next:=p.lt
  have i0:On≠W:=fun e=>by rw[<-e]at a6;rw[dk.gO]at a6;cases a6
  have i1:On≠H:=fun e=>by rw[<-e]at N;rw[dk.gO]at N;cases N
  have lO:=p.ti.ok.lt dk.gO;have i5: ∀ {M:Nat} {o:AObj},T.h.get M=some o->M≠H->M≠W->O.h.get M=some o:=fun {M o} g I h2=>by
   have:=p.ti.ok.lt g;rw[G.keep M (by omega) h2];exact b6 g I this
  have zI: ∀ {B},u B->B≠H/\B≠W:=fun {B} f=>⟨h8 B f,fun e=>h9 (e▸f)⟩
  have a8:Stp (fun B=>B=H\/B=W) T O:=⟨G.ok,by omega,fun M hA hS=>by
   have I:M≠H:=fun e=>hS (.inl e)
   have h2:M≠W:=fun e=>hS (.inr e)
   rw[G.keep M (by omega) h2,s9.keep M (by omega) I,p8.keep M (by omega) (fun x=>x),s7.keep M (by omega) I,a4.keep M hA I]⟩
  have nI: ∀ {B},u B-> ¬(B=H\/B=W):=fun {B} f x=>by rcases x with x | x;exact(zI f).1 x;exact(zI f).2 x
  have zS:u J:=(hZ _).2 (.inr (.inl rfl));have zD:u C:=(hZ _).2 (.inr (.inr (.inl rfl)));have zN:u Nw:=(hZ _).2 (.inr (.inr (.inr (.inl rfl))));have zw: ∀B,Blk wv B->u B:=fun B f=>(hZ _).2 (.inr (.inr (.inr (.inr (.inl f)))))
  have c0:DkI O C E.nb V On Nw wv dm:=dk.stp p.ti.ok a8 (nI zD) (fun x=>by rcases x with x | x;exact i1 x;exact i0 x) (nI zN) fun B f=>nI (zw B f)
  have i2: ∀B,Blk dr B->B=H\/B=A\/Blk dr B\/ ∃kv∈es,blkN kv.2 B:=fun B f=> .inr (.inr (.inl f))
  have c9: ∀B,Blk dr B->B≠H:=fun B f e=>by
   subst e;exact jR z.dg z.gT (fun e' g=>by simp) f
  have d0: ∀B,Blk dr B->B<h.next:=fun B f=>z.dg.lt f
  have d4:Rw 3 O dr E.dl.length (E.dl.flatMap ptrV):=by
   refine Rw.stp (p.ti.dg.row) a8 fun B f x=> ?_
   rcases x with x | x
   .exact c9 B f x
   .have:=d0 B f;omega
  refine⟨O, .inr ⟨e0,V,Z,a0,fun B=>B=J\/B=C\/B=Nw\/Blk wv B,j,T3,M',fun B=>B=H\/B=M'\/Blk .nS B,dr, ?_,⟨.nS,[],last,rfl,⟨G.ok, ?_, ?_,trivial,⟨_,_,_,_,_,rfl,c0⟩, .inl rfl, .inl (kB ..),by simp,by simp,fun B f=>by have:=z.xl B f;omega⟩,by simp[lookN],by simp,d6,by simp,f6,fun B=>Iff.rfl⟩,⟨On,Nw,wv,dm,c0,p.sp.stp p.ti.ok a8 (nI zS),fun B=>Iff.rfl,p.nb.1,p.nb.2.1,p.nb.2.2,p.bd,p.s0,p.few⟩,o3,⟨⟨G.ok,by omega,fun B f hS=> ?_⟩,fun B f=> ?_⟩,d4,fun B f=>⟨?_, ?_,(hW B).2 (.inr (.inr f))⟩⟩⟩
  .simp(maxSteps:=999999)(disch:=omega) only[f37,eZ,b1,c2,cq,t1,t2,c3,b9,ck,c4,tl,e4,b2,rT,e3,pExtract,nth,b4,b0,h6,x1,f37j4,x7,f7,c6,e7,h7,b8,e9,d2,d3,r6]
  .rw[G.keep _ (by omega) (by omega)];exact g0
  .rw[G.keep _ (by omega) (by omega),s9.keep _ (by omega) (by omega)];exact g8
  .have I:B≠H:=fun e=>hS (.inl ((hW B).2 (.inl e)))
   have hv: ¬F B:=fun x=>hS (.inr x)
   rw[a8.keep B (by omega) (fun x=>by rcases x with x | x;exact I x;omega),P5.keep B (by omega) (fun x=>x),(Y.keep (A:=B) (by omega) (fun x=>by rcases x with x | x;omega;exact hv x)).1,P2.keep B f (fun x=>x)]
  .have old: ∀B,u B->F B\/h.next<=B:=fun B f=>by
    rcases Y.2 B f with(x | x) | x
    .exact .inr (by omega)
    .exact .inl x
    .exact .inr (by omega)
   rcases f with(e | e | e) | (e | e | e | e)
   .exact .inl (.inl ((hW B).2 (.inl e)))
   .exact .inr (by omega)
   .exact(jZ.1 e).elim
   .rcases old B (e▸zS)with x | x
    .exact .inl (.inr x)
    .exact .inr x
   .rcases old B (e▸zD)with x | x
    .exact .inl (.inr x)
    .exact .inr x
   .rcases old B (e▸zN)with x | x
    .exact .inl (.inr x)
    .exact .inr x
   .rcases old B (zw B e)with x | x
    .exact .inl (.inr x)
    .exact .inr x
  .have:=d0 B f
   rintro(e | e | e)
   .exact c9 B f e
   .omega
   .exact jZ.1 e
  .have h3:=tP B (i2 B f)
   rintro(e | e | e | e)
   .exact h3 (e▸zS)
   .exact h3 (e▸zD)
   .exact h3 (e▸zN)
   .exact h3 (zw B e)
end Go.Eng.Sh
end
section
namespace Go.Eng
open Go.Nd (Kvs Srt)
end Go.Eng
namespace Go.Eng.Sh
open Go.Nd (Ptr sumL leafOf Kvs Srt mayK putP delP lookP)
open Go.Bt
def prV (p:Str×Str):List AV:=[S p.1,S p.2]
def Prs2 (H:AH)(v:AV)(l:Kvs):Prop:=Rw 2 H v l.length (l.flatMap prV)
theorem flat_at2: ∀(l:Kvs) (i:Nat) (h:i<l.length),((l.flatMap prV).drop (i*2)).take 2=prV l[i]
 | p::l,0,_=>rfl
 | p::l,i+1,h=>by
  rw[yR,show(i+1)*2=2+i*2 by omega,<-List.drop_drop];exact flat_at2 l i (by simpa using h)
theorem Prs2.at {H:AH}{v:AV}{l:Kvs}(h:Prs2 H v l){i:Nat}(hi:i<l.length): ∃A o,(∀κ (z:Int),z=(i:Int)->ixSl 2 v (.int κ z)=some (.ptr A o))/\Eng.ldN 2 (.ptr A o) H=some (.agg (prV l[i]))/\Eng.ld1 (.ptr A o) H=some (S l[i].1)/\Eng.ld1 (.ptr A (o+1)) H=some (S l[i].2):=by
 obtain⟨A,o,c,e,sz,g,f,a,h3,j,h5⟩:=Rw.at h hi;rw[flat_at2 l i hi]at h5;have m:c[o]? =some (S l[i].1):=by
  have:=congrArg (fun x=>x[0]?) h5;simpa[prV]using this
 have p:c[o+1]? =some (S l[i].2):=by
  have:=congrArg (fun x=>x[1]?) h5;simpa[prV]using this
 exact⟨A,o,f,by rw[ldN_ptr a j,h5],ld1_ptr a m,ld1_ptr a p⟩
def behind (kv:Kvs):Nat->Str
 | 0=>[]
 | i+1=>(kv.getD i ([],[])).1++[0]
end Go.Eng.Sh
end
section
namespace Go.Eng
end Go.Eng
namespace Go.Eng.Sh
open Go.Nd (Ptr sumL leafOf Kvs Srt mayK putP delP lookP)
open Go.Bt
def PrG (H:AH)(v:AV)(l:Kvs):Prop:=Grow 2 91 H v l.length (l.flatMap prV)/\(l=[]->v= .nS)
theorem PrG.prs (H:PrG h p E)(s:Prs h Y):PrG Y p E:=⟨H.1.mono s (fun _ _ x=>x),H.2⟩
theorem PrG.row {H:AH}{v:AV}{l:Kvs}(h:PrG H v l):Prs2 H v l:=h.1.row
def GrP (H:AH)(v:AV)(l:Kvs):Prop:=Grow 2 91 H v l.length (l.flatMap prV)
theorem GrP.prs (H:GrP h p E)(s:Prs h Y):GrP Y p E:=H.mono s (fun _ _ x=>x)
theorem GrP.row {H:AH}{v:AV}{l:Kvs}(h:GrP H v l):Prs2 H v l:=Grow.row h
end Go.Eng.Sh
end
section
namespace Go.Eng
end Go.Eng
end
section
namespace Go.Eng.Sh
open Go.Nd (Ptr sumL leafOf Kvs Srt mayK putP delP lookP)
open Go.Bt Go.Bk
def rootOk (p:Ptr):Prop:=Nd.mayP p=true/\Nd.sumOk p/\p.at_≠1
theorem rootOk_zero:rootOk pZ:=⟨rfl,by simp[Nd.sumOk,pZ],by simp[pZ]⟩
theorem rootOk_K (h:q.K w=some e):rootOk w:=by
 have i:=kidOk_K h;obtain⟨a,birth,kind,body,rfl,_⟩:=jU.1 h;exact⟨Nd.kidOk_may i.1,⟨by simp[ptrB],by have:=sumS_lt (sealB kind birth body);simp only[ptrB];omega⟩,by omega⟩
theorem RootIs.rootOk {E:Ev}{p:Ptr}{kv:Kvs}{T:List Ptr}(h:RootIs E [] p kv T):Sh.rootOk p:=by
 rcases h with⟨rfl,_⟩ | ⟨h,j,t,S,f,_⟩
 .exact rootOk_zero
 .obtain⟨s,rfl,a | ⟨_,a⟩⟩ | ⟨_,i⟩:=Qf_inv f
  .simp[lookN]at a
  .simp[lookN]at a
  .exact rootOk_K i
theorem openR_ok(I:100<=n){E:Ev}(u:h.ok){kv:Kvs}(hd: ∃On Nw wv ds,DkI h H E.nb E.ws On Nw wv ds)(hr:RootIs { E with dl:=[] } [] w kv i)(J: ∀B,E.x B->B<h.next:=by intro _ Ad;exact False.elim Ad):
  ∃H' At M W,f62 D n [.ptr H 0, .nP, .agg (ptrV w)] h=some (.tuple [.ptr At 0, .int .i64 (0:Nat)],H')/\Prs h H'/\TreeX (.ptr H 0) .nP { E with dl:=[] } H' At M 0 W w [] kv i/\(∀B,W B->h.next<=B):=by
 obtain⟨y,z,a0⟩:=hr.rootOk;obtain⟨K,j,b1,a,m,m1,n1⟩:=box u (.cells (ptrV w) 38 1 false);obtain⟨v,L,f⟩:=encPtr_ok D n a.ok y z I;obtain⟨H3,M,N,p,O,m3,n3⟩:=box f.ok (.map [10] []);obtain⟨Q,At,S,o,U,m4,n4⟩:=box p.ok (.cells (treeC (.ptr H 0) .nP w M 0 .nS) 82 1 false);have N1:=a.next;have N2:=f.next;have N3:=p.next
 have C:=a.trans f;have q:=(C.trans p).trans o;obtain⟨On,Nw,wv,ds,V⟩:=hd;refine⟨Q,At,M,fun B=>B=At\/B=M\/Blk .nS B, ?_,q,⟨.nS,[],0,rfl,⟨o.ok,U,jY o p.ok O,trivial,⟨H,On,Nw,wv,ds,rfl,V.prs u q⟩, .inl rfl, .inl (kB ..),by simp,by simp,fun B t=>qF (J B t) q.next⟩,fun s nd Ad=>by simp[lookN]at Ad,by simp,by omega,by simp,hr,fun B=>Iff.rfl⟩,fun B t=> ?_⟩
 .have Y:ldN 3 (.ptr j 0) K=some (.agg (ptrV w)):=by rw[ldN_get m];rfl
  have Z:ldN 3 (.ptr j 0) v=some (.agg (ptrV w)):=by rw[ldN_get (jY f a.ok m)];rfl
  have r3:Eng.ld1 (.ptr j 0) v=some (.int .i64 w.at_):=by rw[ld1_get (jY f a.ok m)];rfl
  have F: ¬(((0:Nat):Int)≠((0:Nat):Int)):=by omega
  have G: ¬w.at_=((1:Nat):Int):=by omega
  have bs:bldS [(0,1),(1,1),(2,3),(5,1),(6,1),(7,1)] [.nP, .nP, .int .i64 (0:Nat), .int .i64 (0:Nat), .int .u64 (0:Nat), .nM, .int .u64 (0:Nat), .nS] [(0, .ptr H 0),(1, .nP),(2, .agg (ptrV w)),(3, .map M)]=some (.agg (treeC (.ptr H 0) .nP w M 0 .nS)):=rfl;simp(maxSteps:=999999)(disch:=omega) only[f62,eZ,b1,cq,Y,L,pExtract,nth,F,r3,G,Z,mkM,N,bs,S]
 .rcases t with rfl | rfl | e
  .omega
  .omega
  .exact(jZ.1 e).elim
structure Wld (E:Ev)(H:AH)(Wd Ad As At M L txg la:Nat)(is:Nat->Nat)(V W:Nat->Prop)(root:Ptr)(q:PN)(kv:Kvs)(T:List Ptr):Prop where
 tx:TreeX (.ptr Ad 0) .nP E H At M L W root q kv T
 ds:Dsk H Ad As E.nb E.ws la is V
 us: ∀r∈dsk T++E.dl,is r.at_.toNat≠0
 gW: ∃lv,H.h.get Wd=some (.cells [.ptr Ad 0, .ptr As 0, .ptr At 0, .int .i64 txg,lv] 0 1 false)/\GrP H lv kv
theorem Grow.get2 (e:Grow H A h p t I)(a:Blk p C): ∃I A g,h.h.get C=some (.cells I A H g):=by
 rcases e with⟨_,⟨rfl,_⟩ | ⟨k,rfl,_,f⟩⟩ | ⟨_,k,i,g,rfl,_,f,_⟩
 .exact(jZ.1 a).elim
 .rw[jS.1 a];exact⟨_,_,_,f⟩
 .rw[jS.1 a];exact⟨_,_,_,f⟩
theorem RootIs.srt (h:RootIs q s w E i):Srt E/\ ∀p∈E,mayK p.1=true/\p.2.length<=200:=by
 rcases h with⟨_,rfl,_⟩ | ⟨h,j,t,S,_,_,root,_,rfl,_⟩
 .exact⟨trivial,by simp⟩
 .refine⟨wr_srt root, ?_⟩
  cases h with
  | zero=>exact fun p hp=>⟨(root.1.2 p hp).2.2.1,(root.1.2 p hp).2.2.2⟩
  | succ h=>
   intro p hp;obtain⟨x,f,a⟩:=List.mem_flatMap.1 hp;obtain⟨kv,hi,rfl⟩:=jH f;exact con_ok (root.1.2.2.at (zO hi)) p a
theorem Dsk.stp {S:Nat->Prop}{H H':AH}{Ad As nb la:Nat}{i:Ws}{is:Nat->Nat}{V:Nat->Prop}(d:Dsk H Ad As nb i la is V)(j:H.ok)(s:Stp S H H')(f: ∀B,V B-> ¬S B)(o: ∀B ks es,H.h.get B=some (.map ks es)->S B->ks=[10]):Dsk H' Ad As nb i la is V:=by
 obtain⟨On,Nw,wv,ds,m,p,a,r⟩:=d;exact⟨On,Nw,wv,ds,m.stp j s (f _ ((a _).2 (.inr (.inl rfl)))) (fun h=>by have:=o _ _ _ m.gO h;simp at this) (f _ ((a _).2 (.inr (.inr (.inl rfl))))) (fun B q=>f _ ((a _).2 (.inr (.inr (.inr q))))),p.stp j s (f _ ((a _).2 (.inl rfl))),a,r⟩
theorem TreeX.dsk (o:TreeX p P q h t C J F w s E i)(ds:Dsk h H A U B Q k v):(∀As,v As-> ¬F As)/\ ∀As ks es,h.h.get As=some (.map ks es)->F As->ks=[10]:=by
 obtain⟨dr,es,last,_,f,_,_,_,_,_,j⟩:=o;have Ad:=tree_dsk f ds;refine⟨fun As At L=>Ad As ?_ At,fun As ks es' a L=> ?_⟩
 .rcases(j As).1 L with e | e | e
  .exact .inl e
  .exact .inr (.inl e)
  .exact .inr (.inr (.inl e))
 .rcases(j As).1 L with rfl | rfl | e
  .rw[f.gT]at a;cases a
  .rw[f.gM]at a;cases a;rfl
  .exact absurd e (jR f.dg a (fun M g=>by simp))
theorem Wld.prs {E:Ev}{H H':AH}{a Ad As At M L txg la:Nat}{is:Nat->Nat}{V W:Nat->Prop}{root:Ptr}{q:PN}{kv:Kvs}{T:List Ptr}(w:Wld E H a Ad As At M L txg la is V W root q kv T)(s:Prs H H'):Wld E H' a Ad As At M L txg la is V W root q kv T:=by
 obtain⟨h,i,gl⟩:=w.gW;have f:=w.tx.d.okH;obtain⟨dr,es,last,j,m,h3⟩:=w.tx;exact⟨⟨dr,es,last,j,m.prs s,h3⟩,w.ds.prs f s,w.us,h,jY s f i,gl.prs s⟩
theorem st4 (i:h.ok){d j x:AV}(a:h.h.get H=some (.cells [p,P,g,d,j] 0 1 false))(m:isCell x=true): ∃H',stN 1 (.ptr H 4) x h=some (undefA,H')/\H'.h.get H=some (.cells [p,P,g,d,x] 0 1 false)/\Stp (fun B=>B=H) h H'/\H'.next=h.next:=by
 obtain⟨f,e,q,s,n⟩:=st_fld i a (o:=4) (x:=x) m (by simp);exact⟨f,e,q,s,n⟩
end Go.Eng.Sh
end
section
namespace Go.Bk
theorem allS_at (is:Nat->Nat)(w b i nb j:Nat):allS is w b i nb j=if i<=j/\j<nb/\is j=w then b else is j:=rfl
theorem stlS_nz (h3: ∀i,k i≠3)(i:Nat):(stlS k H i=0↔k i=0)/\stlS k H i≠3:=by
 have a:allS k 3 0 2 H=k:=by
  funext j;rw[allS_at,if_neg fun h=>h3 j h.2.2]
 rw[stlS,a,allS_at];have:=h3 i;split
 .rename_i h;omega
 .exact⟨Iff.rfl,this⟩
theorem cnt_stl {nb:Nat}(h3: ∀i,k i≠3):cnt (stlS k nb) 0 nb=cnt k 0 nb:=cnt_eq fun i _=>(stlS_nz h3 i).1
end Go.Bk
namespace Go.Eng.Sh
open Go.Nd (Ptr sumL leafOf Kvs Srt mayK putP delP lookP)
open Go.Bt Go.Bk
def OldR (E:Ev)(is:Nat->Nat)(p:Ptr)(kv:Kvs):Prop:= ∃T,RootIs { E with dl:=[] } [] p kv T/\ ∀r∈T,r.at_≠1/\is r.at_.toNat≠0
theorem RootIs.keep {E:Ev}{ws':Ws}{dl':List Ptr}{kv:Kvs}(h:RootIs E [] w kv i)(hb: ∀r∈i,blkAt r.at_.toNat ws'=blkAt r.at_.toNat E.ws):RootIs { E with ws:=ws',dl:=dl'} [] w kv i:=by
 rcases h with⟨a,b,c⟩ | ⟨h,f,t,S,j,m,h3,o,h5,rfl⟩
 .exact .inl ⟨a,b,c⟩
 .have key: ∀r∈w::S,∀f,Qf E [] [] r=some f->Qf { E with ws:=ws',dl:=dl'} [] [] r=some f:=fun r hr f p=>by
   have:=Qf_keep (ws':=ws') p fun _=>hb r hr
   obtain⟨s,rfl,h⟩ | ⟨hp,q⟩:=Qf_inv this
   .rcases h with h | ⟨_,h⟩<;>simp[lookN]at h
   .rw[Qf_disk hp];exact jU.2 (jU.1 q)
  exact .inr ⟨h,f,t,S,key w (zH ..) f j,m.mono fun r hr f p=>key r (zC _ hr) f p,h3,o,h5,rfl⟩
theorem OldR.keep {E:Ev}{is i:Nat->Nat}{ws':Ws}{dl':List Ptr}{p:Ptr}{kv:Kvs}(h:OldR E is p kv)(hb: ∀a,is a≠0->blkAt a ws'=blkAt a E.ws)(hi: ∀a,is a≠0->i a≠0):OldR { E with ws:=ws',dl:=dl'} i p kv:=by
 obtain⟨T,j,f⟩:=h;exact⟨T,j.keep (E:= { E with dl:=[] }) fun r hr=>hb _ (f r hr).2,fun r hr=>⟨(f r hr).1,hi _ (f r hr).2⟩⟩
theorem dirty_ok(j:TreeX p P q h H A t v w s E i):f14 D n [.ptr H 0] h=some (.int .i64 s.length,h):=by
 obtain⟨dr,es,last,_,a,_⟩:=j;have f:=none_ok D n a;have At:Eng.ld1 (.ptr H 5) h=some (.map A):=by rw[ld1_get a.gT];rfl
 have M:lnMap (.map A) h=some (.int .i64 s.length):=by
  simp only[lnMap,a.gM,fN_eq,a.pq.len];rfl
 simp(maxSteps:=999999)(disch:=omega) only[f14,eZ,f,At,M]
theorem root_ok(M:TreeX p P q h H A t v w s E i): ∃H',f0 D n [.ptr H 0] h=some (.agg (ptrV w),H')/\Prs h H':=by
 obtain⟨dr,es,last,_,j,_⟩:=M;obtain⟨m,o,b1,a,u,C,F⟩:=box j.ok (.cells [.int .i64 (0:Nat), .int .i64 (0:Nat), .int .u64 (0:Nat)] 38 1 false);have c:=j.prs a;have W:=none_ok D n c;have x:ldN 3 (.ptr H 2) m=some (.agg (ptrV w)):=ldN_ptr c.gT (by simp[treeC]);obtain⟨At,L,y,z,G⟩:=st_all a.ok u (l':=ptrV w) rfl rfl;have d:stN 3 (.ptr o 0) (.agg (ptrV w)) m=some (undefA,At):=L;have r:ldN 3 (.ptr o 0) At=some (.agg (ptrV w)):=ldN_all y rfl;refine⟨At, ?_,a.fresh z fun B I=>by omega⟩;simp(maxSteps:=999999)(disch:=omega) only[f0,eZ,b1,W,x,d,r]
theorem st3 (j:h.ok){d i x:AV}(a:h.h.get H=some (.cells [p,P,g,d,i] 0 1 false))(m:isCell x=true): ∃H',stN 1 (.ptr H 3) x h=some (undefA,H')/\H'.h.get H=some (.cells [p,P,g,x,i] 0 1 false)/\Stp (fun B=>B=H) h H'/\H'.next=h.next:=by
 obtain⟨f,e,q,s,n⟩:=st_fld j a (o:=3) (x:=x) m (by simp);exact⟨f,e,q,s,n⟩
open Go.Proofs
open Go.Nd (Str)
theorem cnt_kb {Q:Ptr->Option Nd.Node}{h:Nat}(f: ∀ {lo hi:Bd} {j:Nd.Node} {t:Bt.Tr h} {S:List Ptr},RepN Q h j t S->WF h lo hi t->3*(S.length+1)+1<=4*(con h t).length):
  ∀ {i:List Ptr} {ts:List (Bt.Tr h)} {S:List Ptr} {ks:List Str} {lo hi:Bd},RepL Q (RepN Q h) i ts S->KB (WF h) lo ks ts hi->3*S.length+ts.length<=4*(ts.flatMap (con h)).length
 | [],[],_,ks,_,_,_,hk=>by cases ks<;>exact hk.elim
 | p::i,t::ts,_,ks,lo,hi,⟨j,S1,S2,a,b,c,e⟩,hk=>by
  subst e;simp only[yR,zT,zV]
  cases ks with
  | nil=>
   cases ts with
   | nil=>
    have o:=f b hk
    cases i with
    | nil=>
     have m:S2=[]:=c;subst m;simp only[List.flatMap_nil,yI];omega
    | cons _ _=>exact c.elim
   | cons _ _=>exact hk.elim
  | cons k ks=>
   have o:=f b hk.1;have m:=cnt_kb f c hk.2;omega
 | [],_::_,_,_,_,_,h,_=>h.elim
 | _::_,[],_,_,_,_,h,_=>h.elim
theorem cnt_wf {Q:Ptr->Option Nd.Node} : ∀(h:Nat) {lo hi:Bd} {f:Nd.Node} {t:Bt.Tr h} {S:List Ptr},RepN Q h f t S->WF h lo hi t->3*(S.length+1)+1<=4*(con h t).length
 | 0,_,_,_,t,_,⟨_,hS⟩,hw=>by
  subst hS;have:(t:Kvs).length≠0:=fun e=>hw.2.1 (zR e)
  show 3*(0+1)+1<=4*(t:Kvs).length;omega
 | h+1,_,_,_,t,_,hr,hw=>by
  have i:=cnt_kb (fun {_ _ _ _ _} a b=>cnt_wf h a b) hr.2.2.2 hw.1.2.2;have j:=many_keys hw;have h3:=hw.1.2.2.len;show _<=4*(t.2.flatMap (con h)).length;omega
theorem cnt_root  : ∀(h:Nat) {f:Nd.Node} {t:Bt.Tr h} {S:List Ptr},RepN G h f t S->WR h t->3*(S.length+1)<=4*(con h t).length+1
 | 0,_,t,_,⟨_,hS⟩,hw=>by
  subst hS;have:(t:Kvs).length≠0:=fun e=>hw.2.1 (zR e)
  show 3*(0+1)<=4*(t:Kvs).length+1;omega
 | h+1,_,t,_,hr,hw=>by
  have i:=cnt_kb (fun {_ _ _ _ _} a b=>cnt_wf h a b) hr.2.2.2 hw.1.2.2;have j:t.1.length≠0:=fun e=>hw.2.1 (zR e)
  have h3:=hw.1.2.2.len;show _<=4*(t.2.flatMap (con h)).length+1;omega
theorem RootIs.cnt (h:RootIs q s w E i):3*i.length<=4*E.length+1:=by
 rcases h with⟨_,rfl,rfl⟩ | ⟨h,root,t,S,_,hr,a,_,f,rfl⟩
 .simp
 .have:=cnt_root h hr a;rw[f]at this;simpa using this
end Go.Eng.Sh
end
section
namespace Go.Bk
def givS (is:Nat->Nat):List Nat->Nat->Nat
 | []=>is
 | i::l=>givS (setS is i (if is i=2 then 0 else 3)) l
theorem givS_out: ∀ {l:List Nat} {is:Nat->Nat} {j:Nat},j∉l->givS is l j=is j
 | [],_,_,_=>rfl
 | i::l,is,j,h=>by
  simp only[zM,not_or]at h;rw[givS,givS_out h.2,setS_ne h.1]
theorem givS_in: ∀ {l:List Nat} {is:Nat->Nat} {j:Nat},l.Nodup->j∈l->givS is l j=(if is j=2 then 0 else 3)
 | i::l,is,j,hn,h=>by
  obtain⟨a,f⟩:=List.nodup_cons.1 hn;rw[givS];by_cases e:j=i
  .subst e;rw[givS_out a,setS_self]
  .have m:j∈l:=by simpa[e]using h
   rw[givS_in f m,setS_ne e]
 | [],_,_,_,h=>by simp at h
end Go.Bk
namespace Go.Eng.Sh
open Go.Nd (Ptr sumL leafOf Kvs Srt mayK putP delP lookP)
open Go.Bt Go.Bk
def blk (r:Ptr):Nat:=r.at_.toNat
def aftS (is:Nat->Nat)(dl:List Nat)(nb:Nat):Nat->Nat:=stlS (givS is dl) nb
theorem aft_at {dl:List Nat}(hd:dl.Nodup)(f: ∀A∈dl,2<=A/\A<H/\k A=1)(h3: ∀A,A<H->k A<3)(j: ∀A,A<H->k A=2->2<=A)(hi:A<H):aftS k dl H A=if A∈dl then 0 else if k A=2 then 1 else k A:=by
 have m:givS k dl A=if A∈dl then 3 else k A:=by
  by_cases h:A∈dl
  .rw[if_pos h,givS_in hd h,(f A h).2.2];rfl
  .rw[if_neg h,givS_out h]
 have p:=h3 A hi;have o: ¬k A=3:=by omega
 simp only[aftS,stlS,allS,m];by_cases h:A∈dl
 .obtain⟨q1,q2,q3⟩:=f A h;simp[h,q1,hi]
 .by_cases a:k A=2
  .simp[h,a,j A hi a,hi]
  .simp[h,a,o]
theorem K_eq {m:Nd.Node}(h:q.K w=some e)(E:q.K r=some m)(f:blk w=blk r):w=r:=by
 obtain⟨a,b,k,s,rfl,F,G,h3,t,h5,h6,_⟩:=jU.1 h;obtain⟨u,I,k',J,rfl,x,y,z,o,C,i,_⟩:=jU.1 E;have v:a=u:=by simpa[blk,ptrB]using f
 subst v;rw[h6]at i;have j:=y0 i;rw[j,seal_birth t o j]
theorem K_blk (h:q.K w=some e):2<=w.at_/\blk w<q.nb:=by
 obtain⟨a,b,k,s,rfl,i,j,_⟩:=jU.1 h;simp only[blk,ptrB];omega
theorem map_nodup {α β:Type}{f:α->β} : ∀ {l:List α},l.Nodup->(∀a∈l,∀b∈l,f a=f b->a=b)->(l.map f).Nodup
 | [],_,_=>by simp
 | a::l,h,hf=>by
  obtain⟨i,j⟩:=List.nodup_cons.1 h;rw[y6,List.nodup_cons];refine⟨fun hm=> ?_,map_nodup j fun x m y o=>hf x (zC _ m) y (zC _ o)⟩;obtain⟨b,hb,e⟩:=qM.1 hm;exact i (hf b (zC _ hb) a (zH ..) e▸hb)
theorem RootIs.known (h:RootIs q s w E i): ∀r∈i,∃a,Qf q s [] r=some a:=by
 rcases h with⟨_,_,rfl⟩ | ⟨h,a,t,S,k1,k2,_,_,_,rfl⟩
 .simp
 .intro r hr;rcases zM.1 hr with rfl | hr
  .exact⟨a,k1⟩
  .exact RepN.here k2 r hr
theorem RootIs.nodup (h:RootIs q s w E i):i.Nodup:=by
 rcases h with⟨_,_,rfl⟩ | ⟨h,a,t,S,_,_,_,k4,_,rfl⟩
 .simp
 .exact k4
theorem dsk_all (h: ∀r∈i,r.at_≠1):dsk i=i:=List.filter_eq_self.2 fun p hp=>by simpa using h p hp
theorem cnt_free {f:Nat->Nat}{n:Nat} : ∀ {l:List Nat},l.Nodup->(∀i∈l,i<n/\f i≠0)->cnt (fun i=>if i∈l then 0 else f i) 0 n=cnt f 0 n+l.length
 | [],_,_=>by simp
 | a::l,hn,h=>by
  obtain⟨j,m⟩:=List.nodup_cons.1 hn;have o:=cnt_free m fun i hi=>h i (zC _ hi)
  have e:(fun i=>if i∈a::l then 0 else f i)=setS (fun i=>if i∈l then 0 else f i) a 0:=by
   funext i;simp only[setS,zM];by_cases e:i=a<;>simp[e]
  obtain⟨q1,q2⟩:=h a (zH ..);rw[e,((cnt_set (is:=fun i=>if i∈l then 0 else f i) (i:=a) (a:=f a) (b:=0) (by simp[j]) q2 (n:=n)).1 q1).1,o,zV]
  omega
structure Sty (E:Ev)(is:Nat->Nat)(T:List Ptr):Prop where
 kn: ∀r∈dsk T++E.dl,∃nd,E.K r=some nd
 nd:(dsk T++E.dl).Nodup
 i1: ∀i,i<E.nb->is i<=1
 us: ∀r∈dsk T++E.dl,is (blk r)=1
 ct:cnt is 0 E.nb+(dsk T++E.dl).length=510
 few:(dsk T++E.dl).length<=200
theorem cnt_new: ∀n,cnt newS 0 (n+2)=n
 | 0=>rfl
 | n+1=>by
  have e:newS (n+2)=0:=by simp[newS]
  show cnt newS 0 (n+2)+(if newS (n+2)=0 then 1 else 0)=n+1
  rw[cnt_new n,e];rfl
theorem Sty.new:Sty ⟨512,[],[],fun _=>False⟩ newS []:=by
 refine⟨by simp[dsk],by simp[dsk],fun i _=>by simp only[newS];split<;>omega,by simp[dsk], ?_,by simp[dsk]⟩;show cnt newS 0 (510+2)+0=510;rw[cnt_new]
theorem Sty.dl {E:Ev}{is:Nat->Nat}{T:List Ptr}(s:Sty E is T):(E.dl.map blk).Nodup/\ ∀r∈E.dl,2<=r.at_/\blk r<E.nb/\is (blk r)=1:=by
 refine⟨map_nodup (List.nodup_append.1 s.nd).2.1 fun a h b hb e=> ?_,fun r hr=> ?_⟩
 .obtain⟨_,f⟩:=s.kn a (qT _ h);obtain⟨_,i⟩:=s.kn b (qT _ hb);exact K_eq f i e
 .obtain⟨_,f⟩:=s.kn r (qT _ hr);exact⟨(K_blk f).1,(K_blk f).2,s.us r (qT _ hr)⟩
theorem WOut.keep1 (o:WOut H B m k M i R)(h:k A=1):M A=1:=by
 rcases o.up A with e | ⟨e,_⟩<;>omega
theorem Sty.aft (s:Sty q k i)(o:WOut q.nb q.ws B k M i R)(E:k 0≠0/\k 1≠0)(hi:H<q.nb):aftS M (q.dl.map blk) q.nb H=if H∈q.dl.map blk then 0 else if M H=2 then 1 else M H:=by
 obtain⟨m,p⟩:=s.dl;refine aft_at m (fun j a=> ?_) (fun j a=> ?_) (fun j a t=> ?_) hi
 .obtain⟨r,hr,rfl⟩:=qM.1 a;obtain⟨q1,q2,q3⟩:=p r hr;exact⟨by unfold blk;omega,q2,o.keep1 q3⟩
 .have:=s.i1 j a;rcases o.up j with e | ⟨e,_⟩<;>omega
 .have:=s.i1 j a
  match j,a with
  | 0,_=>rcases o.up 0 with e | ⟨e,_⟩<;>omega
  | 1,_=>rcases o.up 1 with e | ⟨e,_⟩<;>omega
  | j+2,_=>omega
theorem Sty.out (s:Sty q k i)(o:WOut q.nb q.ws B k M i R)(j:k 0≠0/\k 1≠0)(hr:RootIs { q with ws:=B,dl:=[] } [] w E R)(Y:E.length<=150):Sty { q with ws:=B,dl:=[] } (aftS M (q.dl.map blk) q.nb) R/\aftS M (q.dl.map blk) q.nb 0≠0/\aftS M (q.dl.map blk) q.nb 1≠0:=by
 obtain⟨O,v⟩:=s.dl;have G:=o.used fun r t ws'=>by have:=s.us r (qZ _ (dsk_mem.2 ⟨t,ws'⟩));unfold blk at this;omega
 have hd:dsk R=R:=dsk_all fun r h=>(G r h).1
 have I: ∀r∈R,∃x,Ev.K { q with ws:=B,dl:=[] } r=some x:=fun r h=>by
  obtain⟨x,t⟩:=hr.known r h;obtain⟨p,rfl,_⟩ | ⟨_,ws'⟩:=Qf_inv t
  .exact absurd rfl (G _ h).1
  .exact⟨x,ws'⟩
 have F: ∀a,a∈q.dl.map blk->2<=a:=fun a h=>by
  obtain⟨r,hr,rfl⟩:=qM.1 h;have:=(v r hr).1;unfold blk;omega
 have hb:q.nb≥2:=by
  have:=cnt_le k 0 q.nb;have:=s.ct;have:=s.few;omega
 obtain⟨W,J,_,Z,is⟩:=o.pm;refine⟨⟨?_, ?_,fun a hi=> ?_,fun r y=> ?_, ?_, ?_⟩, ?_, ?_⟩
 .rw[qG,hd];exact I
 .rw[qG,hd];exact hr.nodup
 .rw[s.aft o j hi];have:=s.i1 a hi;split
  .omega
  .split
   .omega
   .rcases o.up a with e | ⟨_,e⟩<;>omega
 .rw[qG,hd]at y;obtain⟨x,Q⟩:=I r y;rw[s.aft o j (K_blk Q).2];rcases zZ.1 (J.mem_iff.1 y)with h | h
  .have t:=s.us r (qZ _ h);have ws':=o.keep1 t;obtain⟨_,k1⟩:=s.kn r (qZ _ h);have z: ¬blk r∈q.dl.map blk:=fun hm=>by
    obtain⟨C,u,e⟩:=qM.1 hm;obtain⟨_,k2⟩:=s.kn C (qT _ u);obtain rfl:=K_eq k2 k1 e;exact(List.nodup_append.1 s.nd).2.2 _ h _ u rfl
   rw[if_neg z,if_neg (by omega),ws']
  .obtain⟨_,ws',h3⟩:=is r h;have a0:k (blk r)=0:=ws';have a1:M (blk r)≠0:=h3;have z: ¬blk r∈q.dl.map blk:=fun hm=>by
    obtain⟨C,u,e⟩:=qM.1 hm;have:=(v C u).2.2;rw[e]at this;omega
   have N:M (blk r)=2:=by rcases o.up (blk r)with e | ⟨_,e⟩<;>omega
   rw[if_neg z,if_pos N]
 .have S:cnt (aftS M (q.dl.map blk) q.nb) 0 q.nb=cnt M 0 q.nb+(q.dl.map blk).length:=by
   rw[<-cnt_free (f:=M) O fun a hi=> ?_]
   .refine cnt_eq fun a hi=> ?_
    rw[s.aft o j hi];by_cases h:a∈q.dl.map blk
    .simp only[if_pos h]
    .simp only[if_neg h];split<;>omega
   .obtain⟨r,hr,rfl⟩:=qM.1 hi;have:=o.keep1 (v r hr).2.2;exact⟨(v r hr).2.1,by omega⟩
  have e2:=o.ct;have U:=s.ct;have V:=J.length_eq;rw[zT]at U V;show cnt (aftS M (q.dl.map blk) q.nb) 0 q.nb+(dsk R++[]).length=510;rw[qG,hd,S,jC];omega
 .rw[qG,hd];have:=hr.cnt;omega
 .rw[s.aft o j (by omega),if_neg fun h=>by have:=F _ h;omega];have:=o.nz j.1;split<;>omega
 .rw[s.aft o j (by omega),if_neg fun h=>by have:=F _ h;omega];have:=o.nz j.2;split<;>omega
theorem cloneSg(f:h.ok){l:List Str}(H:Grow 1 9 h p l.length (l.map S))(hl:l.length<=1000000000):
  ∃a H',f75 D n [p] h=some (a,H')/\Prs h H'/\Grow 1 9 H' a l.length (l.map S)/\ ∀B,Blk a B->h.next<=B:=by
 by_cases i:p= .nS
 .subst i;exact⟨.nS,h,by unfold f75;rfl,jV f,H,fun B j=>(jZ.1 j).elim⟩
 .refine cloneS_ok D n f H.row i (fun e=> ?_) hl;subst e;rcases H with⟨_,⟨H,_⟩ | ⟨_,H,_⟩⟩ | ⟨_,_,_,_,H,_⟩<;>cases H
theorem clonePg(f:h.ok)(H:Grow 3 38 h p i.length (i.flatMap ptrV))(hl:i.length<=1000000000):
  ∃a H',f78 D n [p] h=some (a,H')/\Prs h H'/\Grow 3 38 H' a i.length (i.flatMap ptrV)/\ ∀B,Blk a B->h.next<=B:=by
 by_cases v:p= .nS
 .subst v;exact⟨.nS,h,by unfold f78;rfl,jV f,H,fun B j=>(jZ.1 j).elim⟩
 .refine cloneP_ok D n f H.row v (fun e=> ?_) hl;subst e;rcases H with⟨_,⟨H,_⟩ | ⟨_,H,_⟩⟩ | ⟨_,_,_,_,H,_⟩<;>cases H
theorem size_few (h:Nd.size e<=500):e.keys.length<=500/\e.vals.length<=500/\e.kids.length<=500:=by
 have f:=Nd.sumL_ge e.keys;have i:=Nd.sumL_ge e.vals;simp only[Nd.size]at h;omega
theorem load_ok (m n:Nat)(hn:200000000<=n)(E:TI q h H A p P r l s t g)(hs:Qf q s [] w=some e)(hz:Nd.size e<=500):
  ∃v H',f125 (dy (m+1)) n [.ptr H 0, .agg (ptrV w)] h=some (.tuple [v, .int .i64 (0:Nat)],H')/\Prs h H'/\NodeG H' v e/\ ∀B,blkN v B->h.next<=B:=by
 obtain⟨z1,z2,z3⟩:=size_few hz;obtain⟨H1,A3,b1,C,g1,m1,n1⟩:=box E.ok (.cells [.int .i64 w.at_, .int .i64 w.birth, .int .u64 w.sum] 38 1 false);obtain⟨Q,A4,b2,F,g2,m2,n2⟩:=box C.ok (.cells [.bool false, .nS, .nS, .nS] 72 1 false);have P2:=C.trans F;have h2:=E.prs P2;have a2:=none_ok (dy (m+1)) n h2;obtain⟨v,H3,e3,S,nv,_⟩:=read_ok m n hn h2 hs;obtain⟨ks,vs,u,rfl,w1,T,G⟩:=nv;obtain⟨H4,U,b4,V,g4,m4,n4⟩:=box S.ok (.cells [.bool false, .nS, .nS, .nS] 72 1 false);have a0: ∀ {a b P:AV},Eng.isCell a=true->Eng.isCell b=true->Eng.isCell P=true->allCells [.bool e.leaf,a,b,P]=true:=fun ha hb hc=>by simp[allCells,ha,hb,hc];rfl
 obtain⟨W,e5,g5,s5,n5⟩:=st_all V.ok g4 (l':=[.bool e.leaf,ks,vs,u]) rfl (a0 w1.isCell T.isCell G.isCell);have a3:stN 4 (.ptr U 0) (.agg [.bool e.leaf,ks,vs,u]) H4=some (undefA,W):=e5;have y:Prs H3 W:=V.fresh s5 (fun B j=>by omega);obtain⟨o,H6,e6,Y,k1,f1⟩:=cloneSg (dy (m+1)) n y.ok (w1.mono y (fun _ _ x=>x)) (by omega);have I:=y.trans Y;obtain⟨vs',H7,e7,J,k2,f2⟩:=cloneSg (dy (m+1)) n I.ok (T.mono I (fun _ _ x=>x)) (by omega);have L:=I.trans J;obtain⟨last,H8,e8,z,k3,f3⟩:=clonePg (dy (m+1)) n L.ok (G.mono L (fun _ _ x=>x)) (by omega);have P8:=L.trans z;have Q8:Prs Q H8:=S.trans P8;have N1:=C.next;have N2:=F.next;have N3:=S.next;have N4:=V.next;have N5:=y.next;have N6:=Y.next;have N7:=J.next;have N8:=z.next
 obtain⟨Z,e9,g9,N,n9⟩:=st_all P8.ok (jY Q8 F.ok g2) (l':=[.bool e.leaf,o,vs',last]) rfl (a0 k1.isCell k2.isCell k3.isCell);have a4:stN 4 (.ptr A4 0) (.agg [.bool e.leaf,o,vs',last]) H8=some (undefA,Z):=e9;have nb: ∀ {v:AV},(∀B,Blk v B->W.next<=B)-> ∀B,Blk v B-> ¬B=A4:=fun hv B j=>by have:=hv B j;omega
 refine⟨.agg [.bool e.leaf,o,vs',last],Z, ?_,(P2.trans Q8).fresh N (fun B j=>by omega),⟨o,vs',last,rfl,((k1.mono J (fun _ _ x=>x)).mono z (fun _ _ x=>x)).mono N (nb f1),(k2.mono z (fun _ _ x=>x)).mono N (nb fun B j=>by have:=f2 B j;omega),k3.mono N (nb fun B j=>by have:=f3 B j;omega)⟩,fun B j=> ?_⟩
 .have hp:ptrV w=[.int .i64 w.at_, .int .i64 w.birth, .int .u64 w.sum]:=rfl;have a5:f68 (dy (m+1)) n [.ptr H 0, .agg [.int .i64 w.at_, .int .i64 w.birth, .int .u64 w.sum]] Q=some (.tuple [.agg [.bool e.leaf,ks,vs,u], .int .i64 (0:Nat)],H3):=e3;have a1:=jY F C.ok g1;have r3:ldN 3 (.ptr A3 0) Q=some (.agg [.int .i64 w.at_, .int .i64 w.birth, .int .u64 w.sum]):=by rw[ldN_get a1];rfl
  have h10: ¬w.at_=((0:Nat):Int):=by have:=Qf_at hs;omega
  have a6: ¬(((0:Nat):Int)≠((0:Nat):Int)):=by omega
  have At: ∀ {H':AH} (i:Nat) {x:AV} (K:Rs),H'.h.get U=some (.cells [.bool e.leaf,ks,vs,u] 72 1 false)->[.bool e.leaf,ks,vs,u][i]? =some x->aveq x x=true->chk (ld1 (.ptr U i) H') x K=K:=fun i x K M hi hx=>chk_ok (by rw[ld1_get M];exact hi) hx
  have O:=jY Y y.ok g5;have g7:=jY J I.ok O;have g8:=jY z L.ok g7;have ab:aveq (.bool e.leaf) (.bool e.leaf)=true:=by cases e.leaf<;>rfl
  have bs:bldS [(0,1),(1,1),(2,1),(3,1)] [.bool false, .nS, .nS, .nS] [(0, .bool e.leaf),(1,o),(2,vs'),(3,last)]=some (.agg [.bool e.leaf,o,vs',last]):=by
   simp only[bldS,fillA,nthP,cellsA_cell k1.isCell,cellsA_cell k2.isCell,cellsA_cell k3.isCell];rfl
  have r9:ldN 4 (.ptr A4 0) Z=some (.agg [.bool e.leaf,o,vs',last]):=agg4 g9 rfl;rw[hp];simp(maxSteps:=999999)(disch:=omega) only[f125,eZ,b1,b2,a2,ld1_get a1,h10,r3,a5,pExtract,nth,b4,a3,a6,ld1_get g5,e6,At 0 _ O rfl ab,At 2 _ O rfl (aveq_row T.row),At 3 _ O rfl (aveq_row G.row),e7,At 0 _ g7 rfl ab,At 3 _ g7 rfl (aveq_row G.row),e8,At 0 _ g8 rfl ab,bs,a4,r9]
 .rcases blkN_mk.1 j with d | d | d
  .have:=f1 B d;omega
  .have:=f2 B d;omega
  .have:=f3 B d;omega
open Go.Nd (Str)
theorem ask0_ok(d:DkI h H A B t C p L):f44 D n [.ptr H 0] h=some (.int .i64 (0:Nat),h):=by
 have f:Eng.ld1 (.ptr H 6) h=some (.bool false):=by rw[ld1_get d.gD];rfl
 simp(maxSteps:=999999)(disch:=omega) only[f44,eZ,cq,f]
theorem forget_ok(v:h.ok){q s:AV}(y:h.h.get H=some (.cells [p, .map A,P, .map t,g,q,s] 100 1 false))(i:h.h.get t=some (.map [6] l)):
  ∃H',f82 D n [.ptr H 0] h=some (.tuple [],H')/\H'.h.get H=some (.cells [p, .map A, .nS, .map t,g,q,s] 100 1 false)/\H'.h.get t=some (.map [6] [])/\Stp (fun B=>B=H\/B=t) h H'/\H'.next=h.next:=by
 obtain⟨a,F,G,f,I⟩:=st_fld v y (o:=2) (x:= .nS) rfl (by simp);have On:t≠H:=fun e=>by rw[e,y]at i;cases i
 have j:a.h.get H=some (.cells [p, .map A, .nS, .map t,g,q,s] 100 1 false):=G;have u:a.h.get t=some (.map [6] l):=(f.keep _ (v.lt i) On).trans i;have J:Eng.ld1 (.ptr H 3) a=some (.map t):=by rw[ld1_get j];rfl
 have z:Stp (fun B=>B=t) a (a.put t (.map [6] [])):=(jV f.ok).put (f.ok.lt u) _ (.inr rfl);have C:clM (.map t) a=some (.tuple [],a.put t (.map [6] [])):=by simp only[clM,u,putA_ok]
 refine⟨a.put t (.map [6] []), ?_, ?_,by rw[jO,if_pos rfl],(f.mono fun _ _ Ad=> .inl Ad).trans (z.mono fun _ _ Ad=> .inr Ad),I⟩
 .simp(maxSteps:=999999)(disch:=omega) only[f82,eZ,F,J,C]
 .rw[z.keep _ (f.ok.lt j) (fun e=>On e.symm)];exact j
theorem flush_loop{nb:Nat}{a:Ws}(N: ∀w∈a,w.2.length=512)(b4:a.length<=1000000)(a2:I[1]? =some (.map A)):
  ∀m i f (Ad:AH) (q:List (AV×AV)),i+m=a.length->m<f->Ad.ok->Ad.h.get H=some (.cells I 100 1 false)->Ad.h.get A=some (.map [6] q)->(∀k:Nat,findA (.int .i64 ((k:Nat):Int)) q=(blkAt k (B++a.take i)).map fun b=> .agg (bytesV b))->Own 513 150 Ad p a.length (a.flatMap wV)->
   ∃H' O,loopK f (f57l0 D n) [.ptr H 0,p, .int .i64 a.length, .int .i64 i] Ad=some (.exit 0 [.ptr H 0],H')/\H'.h.get A=some (.map [6] O)/\(∀k:Nat,findA (.int .i64 ((k:Nat):Int)) O=(blkAt k (B++a)).map fun b=> .agg (bytesV b))/\Stp (fun S=>S=A) Ad H':=by
 intro m
 induction m with
 | zero=>
  intro i f Ad q hi a3 s y t z C;obtain⟨f,rfl⟩: ∃k,f=k+1:=⟨f - 1,by omega⟩;have J: ¬(i:Int)< (a.length:Int):=by omega
  refine⟨Ad,q,loop_exit ?_,t, ?_,jV s⟩
  .simp(maxSteps:=999999)(disch:=omega) only[f57l0,eZ,J]
  .rw[zW (by omega)]at z;exact z
 | succ m ih=>
  intro i f Ad q hi a3 s y t z C;obtain⟨f,rfl⟩: ∃k,f=k+1:=⟨f - 1,by omega⟩;have v:i<a.length:=by omega
  have J:(i:Int)< (a.length:Int):=by omega
  have hi1:(i:Int)+((1:Nat):Int)=((i+1:Nat):Int):=by omega
  have G:=N _ (yH v);obtain⟨On,o,c,e,sz,g,q1,q2,q3,q4,U⟩:=Rw.at C.row v;rw[flatAtW a i v N]at U;have a4:=q1 .i64 (i:Int) rfl;have a5:ldN 513 (.ptr On o) Ad=some (.agg (wV a[i])):=by rw[ldN_ptr q2 q4,U]
  obtain⟨Z,V⟩: ∃Z:Str,Z=List.replicate 512 0:=⟨_,rfl⟩;have a6:rep 512 [AV.int .u8 (0:Nat)]=bytesV Z:=by rw[rep_row,V]
  have Q:(bytesV Z).length=512:=by rw[bytesV_length,V];exact List.length_replicate
  obtain⟨H1,K,b1,L,g1,m1,n1⟩:=box s (.cells (.int .i64 (0:Nat)::bytesV Z) 150 1 false);have a7:allCells (wV a[i])=true:=by
   have:=bytesV_cells a[i].2;simp only[wV,allCells,this];rfl
  obtain⟨u,W,Y,s2,n2⟩:=st_all L.ok g1 (l':=wV a[i]) (by rw[wV_len G];simp[Q]) a7;have a8:stN 513 (.ptr K 0) (.agg (wV a[i])) H1=some (undefA,u):=by
   have hl:(AV.int .i64 (0:Nat)::bytesV Z).length=513:=by simp[Q]
   rw[hl]at W;exact W
  have j:Prs Ad u:=L.fresh s2 fun S F=>by omega
  have N1:=L.next;have N2:=s2.next
  have T:=jY j s y;have a9:=jY j s t;have r1:Eng.ld1 (.ptr H 1) u=some (.map A):=ld1_ptr T a2;have ra:Eng.ld1 (.ptr K 0) u=some (.int .i64 (a[i].1:Nat)):=by rw[ld1_get Y];rfl
  have rb:ldN 512 (.ptr K 1) u=some (.agg (bytesV a[i].2)):=by
   rw[ldN_ptr Y (by rw[wV_len G];omega)];congr 2;show((wV a[i]).drop 1).take 512=_;have:(wV a[i]).drop 1=bytesV a[i].2:=rfl;rw[this,zW (by rw[bytesV_length,G];omega)]
  obtain⟨H3,a0,e3,g3,f3,wv,n3⟩:=up_int j.ok a9 rfl (m:=((a[i].1:Nat):Int)) (keyI _) (.agg (bytesV a[i].2));have b0:H≠A:=fun e=>by rw[e,t]at y;cases y
  have b2: ∀S,Blk p S-> ¬S=A:=fun S F e=>by have:=C.get F;rw[e,t]at this;cases this
  have b3:H3.h.get H=_:=(wv.keep _ (j.ok.lt T) b0).trans T;obtain⟨H4,a1,e4,g4,f4,M⟩:=ih (i+1) f H3 a0 (by omega) (by omega) wv.ok b3 g3 (fun k=>by
   rw[qH v,<-qC,blkAt_snoc,f3];by_cases ek:a[i].1=k
   .subst ek;simp
   .have e': ¬((k:Nat):Int)=((a[i].1:Nat):Int):=by omega
    rw[if_neg e',if_neg ek];exact z k) ((C.mono j fun _ _ x=>x).mono wv b2)
  refine⟨H4,a1,(loop_next ?_).trans e4,g4,f4,⟨M.ok,by have:=wv.next;have:=M.next;omega,fun S F hS=> ?_⟩⟩
  .simp(maxSteps:=999999)(disch:=omega) only[f57l0,eZ,J,a4,a5,a6,qB,qV,b1,a8,r1,ra,rb,e3,hi1]
  .rw[M.keep S (by have:=wv.next;omega) hS,wv.keep S (by omega) hS,j.keep S F (fun x=>x)]
theorem flush_ok(U:2000000<=n)(j:h.ok){nb:Nat}(d:DkI h H nb B A t p L):
  ∃H' i,f57 D n [.ptr H 0] h=some (.int .i64 (0:Nat),H')/\DkI H' H nb B A t .nS ⟨[],i,B,[]⟩/\Stp (fun Ad=>Ad=H\/Ad=A\/Ad=t) h H':=by
 have z:=ask0_ok D n d;have C:Eng.ld1 (.ptr H 4) h=some (.int .i64 (0:Nat)):=by rw[ld1_get d.gD];rfl
 have F:f90 D n [.ptr H 0] h=some (.int .i64 (0:Nat),h):=by
  simp(maxSteps:=999999)(disch:=omega) only[f90,eZ,C]
 have G:Eng.ld1 (.ptr H 2) h=some p:=by rw[ld1_get d.gD];rfl
 have f:lnSl p=some (.int .i64 L.ww.length):=d.ow.row.lnSl;have Q:L.ww.length<=B.length:=by rw[d.sp];simp
 have S:=d.few;obtain⟨q,i,I,s,J,a⟩:=flush_loop D n (nb:=nb) (fun w K=>d.ln w (by rw[d.sp];exact qT _ K)) (by omega) rfl L.ww.length 0 n h L.on (by omega) (by omega) j d.gD d.gO (by rw[List.take_zero,qG];exact d.on_) d.ow;have On:H≠A:=fun e=>by have:=d.gD;rw[e,d.gO]at this;cases this
 have T:H≠t:=fun e=>by have:=d.gD;rw[e,d.gN]at this;cases this
 have u:q.h.get H=_:=(a.keep _ (j.lt d.gD) On).trans d.gD;have v:q.h.get t=_:=(a.keep _ (j.lt d.gN) (fun e=>d.ne e.symm)).trans d.gN;obtain⟨Nw,M,N,x,m,V⟩:=forget_ok D n a.ok u v;have W:=a.next
 refine⟨Nw,i, ?_,⟨N, ?_,x,kB ..,fun _=>rfl,d.ln,d.few,d.ne,by rw[d.sp];exact J,by simp,d.oa⟩,⟨m.ok,by omega,fun Ad O o=> ?_⟩⟩
 .have y: ¬(((0:Nat):Int)≠((0:Nat):Int)):=by omega
  simp(maxSteps:=999999)(disch:=omega) only[f57,eZ,z,F,y,G,f,I,f57b1,M]
 .rw[m.keep _ (a.ok.lt s) (fun e=>by rcases e with e | e;exact On e.symm;exact d.ne e)];exact s
 .rw[m.keep Ad (by omega) (fun e=>by rcases e with e | e;exact o (.inl e);exact o (.inr (.inr e))),a.keep Ad O (fun e=>o (.inr (.inl e)))]
def DkD (H:AH)(Ad nb:Nat)(a:Ws):Prop:= ∃On Nw f,H.h.get Ad=some (.cells [.int .i64 nb, .map On, .nS, .map Nw, .int .i64 (0:Nat), .nS, .bool true] 100 1 false)/\H.h.get On=some (.map [6] f)/\(∀n:Nat,findA (.int .i64 n) f=(blkAt n a).map fun b=> .agg (bytesV b))/\(∀w∈a,w.2.length=512)/\a.length<=1000000
theorem fail_ok(T:1<=n)(s:h.ok)(d:DkI h H A B t C .nS ⟨[],l,B,[]⟩):
  ∃H',f15 D n [.ptr H 0, .nS] h=some (.int .i64 (0:Nat),H')/\DkD H' H A B/\Stp (fun nb=>nb=H\/nb=C) h H':=by
 have y:=ask0_ok D n d;have z:Eng.ld1 (.ptr H 2) h=some .nS:=by rw[ld1_get d.gD];rfl
 have u:lnSl .nS=some (.int .i64 (0:Nat)):=rfl;obtain⟨n,rfl⟩: ∃k,n=k+1:=⟨n - 1,by omega⟩;have hl:loopK (n+1) (f45l1 D (n+1)) [.ptr H 0, .nS, .nS, .int .i64 (0:Nat), .int .i64 (0:Nat)] h=some (.exit 0 [.ptr H 0],h):=loop_exit (by
  simp(maxSteps:=999999)(disch:=omega) only[f45l1,eZ,yA])
 obtain⟨U,On,F,S,Ad,V⟩:=forget_ok D (n+1) s d.gD d.gN;obtain⟨W,G,I,i,Y⟩:=st_fld Ad.ok F (o:=4) (x:= .int .i64 (0:Nat)) rfl (by simp);obtain⟨Z,J,K,j,n3⟩:=st_fld i.ok I (o:=5) (x:= .nS) rfl (by simp);obtain⟨L,M,N,m,n4⟩:=st_fld j.ok K (o:=6) (x:= .bool true) rfl (by simp);have a:H≠t:=fun e=>by have:=d.gD;rw[e,d.gO]at this;cases this
 have O:=s.lt d.gO;refine⟨L, ?_,⟨t,C,l,N, ?_,d.on_,d.ln,d.few⟩,⟨m.ok,by omega,fun nb Q f=> ?_⟩⟩
 .have v: ¬(((0:Nat):Int)≠((0:Nat):Int)):=by omega
  simp(maxSteps:=999999)(disch:=omega) only[f15,f45,eZ,y,v,z,u,hl,f45b2,On,G,J,M]
 .rw[m.keep _ (by omega) (fun e=>a e.symm),j.keep _ (by omega) (fun e=>a e.symm),i.keep _ (by omega) (fun e=>a e.symm),Ad.keep _ O (fun e=>by rcases e with e | e;exact a e.symm;exact d.ne e)];exact d.gO
 .have p: ¬nb=H:=fun e=>f (.inl e)
  rw[m.keep _ (by omega) p,j.keep _ (by omega) p,i.keep _ (by omega) p,Ad.keep _ Q f]
theorem boot_ok(p:h.ok)(d:DkD h H A B):
  ∃H' Ad On Nw a,f46 D n [.ptr H 0] h=some (.tuple [.ptr Ad 0, .int .i64 (0:Nat)],H')/\Prs h H'/\DkI H' Ad A B On Nw .nS ⟨[],a,B,[]⟩/\h.next<=Ad/\h.next<=On/\h.next<=Nw:=by
 obtain⟨On,Nw,a,m,z,C,hl,F⟩:=d;have G:Eng.ld1 (.ptr H 6) h=some (.bool true):=by rw[ld1_get m];rfl
 have I:Eng.ld1 (.ptr H 0) h=some (.int .i64 A):=by rw[ld1_get m];rfl
 have J:Eng.ld1 (.ptr H 1) h=some (.map On):=by rw[ld1_get m];rfl
 have f:Prs h (h.push (.map [6] a)):=(jV p).push _;have s:=jK h (.map [6] a);have L:=jL h (.map [6] a);have u:m83 D n [.map On] h=some (.map h.next,h.push (.map [6] a)):=by
  obtain⟨t,M⟩:=qI.1 (Eng.T.set_some 40 h.h h.next (.map [6] a))
  simp only[m83,clnK,z,p h.next (zK _),M,fN_eq,AH.push,yB]
 generalize h.push (.map [6] a)=H1 at f s L u;obtain⟨i,x⟩: ∃i,i=h.next:=⟨_,rfl⟩
 rw[<-x]at s u;have y:Eng.ld1 (.ptr H 0) H1=some (.int .i64 A):=by rw[ld1_get (jY f p m)];rfl
 obtain⟨Y,o,b2,j,N,Z,n2,u2,v2⟩:=boxE f.ok (.map [6] []);obtain⟨O,Q,S,v,U,m3,n3,u3,v3⟩:=boxE j.ok (.cells [.int .i64 A, .map i, .nS, .map o, .int .i64 (0:Nat), .nS, .bool false] 100 1 false);have N1:=f.next;have N2:=j.next
 refine⟨O,Q,i,o,a, ?_,(f.trans j).trans v,⟨U,jY (j.trans v) f.ok s,jY v j.ok N,kB ..,fun _=>rfl,hl,F,by omega,C,by simp,by omega⟩,by omega,by omega,by omega⟩;have V: ∀K:Rs,chk (some (.int .i64 A)) (.int .i64 A) K=K:=fun K=>chk_ok rfl (by
  have:keq .i64 .i64=true:=by rw[keq_eq];simp
  simp only[aveq,this,Bool.true_and,ieq_eq];simp)
 have W:bldS [(0,1),(1,1),(2,1),(3,1),(4,1),(5,1),(6,1)] [.int .i64 (0:Nat), .nM, .nS, .nM, .int .i64 (0:Nat), .nS, .bool false] [(0, .int .i64 A),(1, .map i),(3, .map o)]=some (.agg [.int .i64 A, .map i, .nS, .map o, .int .i64 (0:Nat), .nS, .bool false]):=rfl;simp(maxSteps:=999999)(disch:=omega) only[f46,f55,eZ,cq,G,I,J,u,y,V,mkM,b2,W,S]
end Go.Eng.Sh
end
section
namespace Go.Nd
theorem be_app: ∀(a b n:Nat),be (a+b) n=be a (n / 256 ^ b)++be b n
 | 0,b,n=>by simp[be]
 | a+1,b,n=>by
  rw[show a+1+b=(a+b)+1 by omega,Go.Eng.Sh.be_cons,Go.Eng.Sh.be_cons,be_app a b n,qB];congr 2;rw[Nat.div_div_eq_div_mul,<-Nat.pow_add,Nat.add_comm]
end Go.Nd
namespace Go.Eng
theorem apIn (f:h.ok){e len n bytes:Nat}{s:AV}{new:List AV}(g:h.h.get H=some (.cells I A 1 false))(hr:len+n<=I.length)(o:srcOf 1 s h=some (n,new))(p:new.length=n)(q:allCells new=true):
  ∃H',apP e 1 bytes (.slice H 0 len (2*I.length)) s h=some (.slice H 0 (len+n) (2*I.length),H')/\H'.h.get H=some (.cells (I.take len++new++I.drop (len+n)) A 1 false)/\Stp (fun B=>B=H) h H':=by
 have t:((2*I.length) % 2).beq 0=true:=by rw[zX];omega
 have i:roomOf I false 1 0 (2*I.length) 1=I.length:=by
  simp only[roomOf,t,zP];omega
 have m:Nat.ble (len+n) I.length=true:=by rw[qO];exact hr
 have j:setAt I (0+len*1) new=some (I.take len++new++I.drop (len+n)):=by
  rw[setAt_some (by omega)];simp[p]
 refine⟨h.put H (.cells (I.take len++new++I.drop (len+n)) A 1 false), ?_,by rw[jO,if_pos rfl],(jV f).put (f.lt g) _ (.inr rfl)⟩;simp only[apP,o,q,zP,app1,g,app2,i,m,show Nat.blt 0 1=true from rfl,j,appIn,putA_ok,fN_eq]
end Go.Eng
namespace Go.Eng.Sh
open Go.Nd (Ptr Str be bee)
open Go.Bk
theorem be4_bytes (x:Nat):bytesV (be 4 x)=[.int .u8 (x / 16777216 % 256:Nat), .int .u8 (x / 65536 % 256:Nat), .int .u8 (x / 256 % 256:Nat), .int .u8 (x % 256:Nat)]:=by
 have h: ∀y:Nat,(UInt8.ofNat y).toNat=y % 256:=fun y=>by rw[UInt8.toNat_ofNat']
 have e:be 4 x=[UInt8.ofNat (x / 16777216),UInt8.ofNat (x / 65536),UInt8.ofNat (x / 256),UInt8.ofNat x]:=by
  rw[be_cons,be_cons,be_cons,be_cons];rw[show(256:Nat) ^ 3=16777216 by decide,show(256:Nat) ^ 2=65536 by decide,Nat.pow_one,Nat.pow_zero,Nat.div_one];rfl
 rw[e];simp only[bytesV,y6,List.map_nil,h]
theorem wordOf_ok(p:h.ok)(x:Nat)(K:x<4294967296):
  ∃H',f158 D n [.int .u32 x] h=some (.agg (bytesV (be 4 x)),H')/\Prs h H':=by
 obtain⟨q,A,b1,i,t,L,M⟩:=box p (.cells [.int .u8 (0:Nat), .int .u8 (0:Nat), .int .u8 (0:Nat), .int .u8 (0:Nat)] 248 1 false);have j:=be4_bytes x;have H:(bytesV (be 4 x)).length=4:=by rw[bytesV_length,Nd.be_length]
 obtain⟨a,u,v,z,N⟩:=st_all i.ok t (l':=bytesV (be 4 x)) (by rw[H];rfl) (bytesV_cells _);have m:stN 4 (.ptr A 0) (.agg (bytesV (be 4 x))) q=some (undefA,a):=u;have C:ldN 4 (.ptr A 0) a=some (.agg (bytesV (be 4 x))):=ldN_all v H;have f: ∀(s k:Nat),k=2 ^ s->s<=32->bInt .shr (.int .u32 x) (.int .u64 ((s:Nat):Int))=some (.int .u32 (x / k:Nat)):=fun s k F h64=>by
  rw[bInt_shr _ _ (by omega) (show s<=32 from h64),F];congr 2
  all_goals(rw[Int.natCast_ediv,Int.natCast_pow];rfl)
 have G:=f 24 16777216 (by decide) (by omega);have o:=f 16 65536 (by decide) (by omega);have I:=f 8 256 (by decide) (by omega);have w: ∀y:Nat,IntKind.wrap .u8 ((y:Nat):Int)=((y % 256:Nat):Int):=fun y=>by rw[wrap_u8];omega
 have J:bldA 1 [.int .u8 (0:Nat), .int .u8 (0:Nat), .int .u8 (0:Nat), .int .u8 (0:Nat)] [(0, .int .u8 (x / 16777216 % 256:Nat)),(1, .int .u8 (x / 65536 % 256:Nat)),(2, .int .u8 (x / 256 % 256:Nat)),(3, .int .u8 (x % 256:Nat))]=some (.agg (bytesV (be 4 x))):=by rw[j];rfl
 refine⟨a, ?_,i.fresh z fun B O=>by omega⟩;simp(maxSteps:=999999)(disch:=omega) only[f158,eZ,b1,G,o,I,cvI_int,w,J,m,C]
theorem long_ok(hk:h.ok)(x:Nat)(hx:x<18446744073709551616):
  ∃H' A,f147 D n [.nS, .int .u64 ((x:Nat):Int)] h=some (.slice A 0 8 16,H')/\Prs h H'/\H'.h.get A=some (.cells (bytesV (be 8 x)) 5 1 false):=by
 have s1:bInt .shr (.int .u64 ((x:Nat):Int)) (.int .u64 (32:Nat))=some (.int .u64 (x / 4294967296:Nat)):=by
  rw[bInt_shr _ _ (by omega) (show 32<=64 by omega)];congr 2
 have c1:cvI .u32 (.int .u64 (x / 4294967296:Nat))=some (.int .u32 (x / 4294967296:Nat)):=by
  rw[cvI_int,wrap_u32];congr 2;omega
 have c2:cvI .u32 (.int .u64 ((x:Nat):Int))=some (.int .u32 (x % 4294967296:Nat)):=by
  rw[cvI_int,wrap_u32];congr 2
 obtain⟨H1,J,q⟩:=wordOf_ok D n hk (x / 4294967296) (by omega);obtain⟨H2,K,t⟩:=wordOf_ok D n q.ok (x % 4294967296) (by omega);obtain⟨H3,i,b3,u,g3,m3,n3⟩:=box t.ok (.cells [.int .u8 (0:Nat), .int .u8 (0:Nat), .int .u8 (0:Nat), .int .u8 (0:Nat)] 248 1 false);obtain⟨H4,f,b4,v,g4,m4,n4⟩:=box u.ok (.cells [.int .u8 (0:Nat), .int .u8 (0:Nat), .int .u8 (0:Nat), .int .u8 (0:Nat)] 248 1 false);have hl: ∀y,(bytesV (be 4 y)).length=4:=fun y=>by rw[bytesV_length,Nd.be_length]
 obtain⟨L,e5,g5,z,n5⟩:=st_all v.ok (jY v u.ok g3) (l':=bytesV (be 4 (x / 4294967296))) (by rw[hl];rfl) (bytesV_cells _);have N3:=u.next;have N4:=v.next
 have V:L.h.get f=_:=(z.keep _ (by omega) (by omega)).trans g4;obtain⟨M,e6,g6,j,n6⟩:=st_all z.ok V (l':=bytesV (be 4 (x % 4294967296))) (by rw[hl];rfl) (bytesV_cells _);have W:stN 4 (.ptr i 0) (.agg (bytesV (be 4 (x / 4294967296)))) H4=some (undefA,L):=e5;have Y:stN 4 (.ptr f 0) (.agg (bytesV (be 4 (x % 4294967296)))) L=some (undefA,M):=e6;have Z:M.h.get i=_:=(j.keep _ (by omega) (by omega)).trans g5;obtain⟨H7,a,b7,m,g7,m7,n7⟩:=box j.ok (.cells [.int .u8 (0:Nat), .int .u8 (0:Nat), .int .u8 (0:Nat), .int .u8 (0:Nat), .int .u8 (0:Nat), .int .u8 (0:Nat), .int .u8 (0:Nat), .int .u8 (0:Nat)] 5 1 false);have a0:mkSl 5 1 1 [.int .u8 (0:Nat)] (.int .i64 (0:Nat)) (.int .i64 (8:Nat))=some (.cells [.int .u8 (0:Nat), .int .u8 (0:Nat), .int .u8 (0:Nat), .int .u8 (0:Nat), .int .u8 (0:Nat), .int .u8 (0:Nat), .int .u8 (0:Nat), .int .u8 (0:Nat)] 5 1 false,fun A=> .slice A 0 0 16):=rfl;obtain⟨o,e8,g8,p⟩:=apIn m.ok (e:=5) (bytes:=1) (len:=0) (n:=0) (s:= .nS) (new:=[]) g7 (by simp) rfl rfl rfl;have a1:slArr 4 1 (.ptr i 0) none none none=some (.slice i 0 4 8):=rfl;have s2a:slArr 4 1 (.ptr f 0) none none none=some (.slice f 0 4 8):=rfl;have N6:=j.next;have N7:=m.next;have N8:=p.next
 have a2:o.h.get i=_:=(p.keep _ (by omega) (by omega)).trans (jY m j.ok Z);have a3:o.h.get f=_:=(p.keep _ (by omega) (by omega)).trans (jY m j.ok g6);have N: ∀ {G:AH} {A y:Nat},G.h.get A=some (.cells (bytesV (be 4 y)) 248 1 false)->srcOf 1 (.slice A 0 4 8) G=some (4,bytesV (be 4 y)):=fun {G A y} g=>by
  have hs:subN (bytesV (be 4 y)) 0 (4*1)=some (bytesV (be 4 y)):=by
   rw[subN_some _ _ _ (.inr (by rw[hl];omega)),yE,zW (by rw[hl];omega)]
  simp only[srcOf,g,hs]
 obtain⟨C,e9,g9,F⟩:=apIn p.ok (e:=5) (bytes:=1) (len:=0) (n:=4) (s:= .slice i 0 4 8) (new:=bytesV (be 4 (x / 4294967296))) g8 (by simp) (N a2) (hl _) (bytesV_cells _);have N9:=F.next
 have a4:C.h.get f=_:=(F.keep _ (by omega) (by omega)).trans a3;have b2:(([]++([]:List AV)++[AV.int .u8 (0:Nat), .int .u8 (0:Nat), .int .u8 (0:Nat), .int .u8 (0:Nat), .int .u8 (0:Nat), .int .u8 (0:Nat), .int .u8 (0:Nat), .int .u8 (0:Nat)].drop 0)).length=8:=rfl;have a5:C.h.get a=some (.cells (bytesV (be 4 (x / 4294967296))++[AV.int .u8 (0:Nat), .int .u8 (0:Nat), .int .u8 (0:Nat), .int .u8 (0:Nat)]) 5 1 false):=g9;obtain⟨O,Q,a6,I⟩:=apIn F.ok (e:=5) (bytes:=1) (len:=4) (n:=4) (s:= .slice f 0 4 8) (new:=bytesV (be 4 (x % 4294967296))) a5 (by simp[hl]) (N a4) (hl _) (bytesV_cells _);have S:2*(bytesV (be 4 (x / 4294967296))++[AV.int .u8 (0:Nat), .int .u8 (0:Nat), .int .u8 (0:Nat), .int .u8 (0:Nat)]).length=16:=by simp[hl]
 rw[S]at Q;have b5:=I.next
 have a7:bytesV (be 8 x)=bytesV (be 4 (x / 4294967296))++bytesV (be 4 (x % 4294967296)):=by
  rw[<-bytesV_append];congr 1;have h4:be 4 (x % 4294967296)=be 4 x:=by
   have:=Nd.be_bee (be 4 x);rw[Nd.be_length,Nd.bee_be]at this;exact this
  rw[h4,show(8:Nat)=4+4 from rfl,Nd.be_app]
 refine⟨O,a, ?_,⟨I.ok,by have:=q.next;have:=t.next;have:=z.next;omega,fun B hB _=> ?_⟩, ?_⟩
 .have a8:apP 5 1 1 (.slice a 0 0 16) .nS H7=some (.slice a 0 0 16,o):=e8;have a9:apP 5 1 1 (.slice a 0 0 16) (.slice i 0 4 8) o=some (.slice a 0 4 16,C):=e9;have T:apP 5 1 1 (.slice a 0 4 16) (.slice f 0 4 8) C=some (.slice a 0 8 16,O):=Q;have b0:((0:Nat):Int)+((8:Nat):Int)=((8:Nat):Int):=by omega
  have b1:lnSl .nS=some (.int .i64 (0:Nat)):=rfl;have U:f159 D n [.nS, .int .i64 (8:Nat)] M=some (.slice a 0 0 16,o):=by
   simp(maxSteps:=999999)(disch:=omega) only[f159,eZ,b1,b0,a0,b7,a8]
  simp(maxSteps:=999999)(disch:=omega) only[f147,eZ,s1,c1,J,c2,K,b3,b4,W,Y,a1,s2a,U,a9,T]
 .have:=q.next;have:=t.next
  rw[I.keep B (by omega) (by omega),F.keep B (by omega) (by omega),p.keep B (by omega) (by omega),m.keep B (by omega) (fun x=>x),j.keep B (by omega) (by omega),z.keep B (by omega) (by omega),v.keep B (by omega) (fun x=>x),u.keep B (by omega) (fun x=>x),t.keep B (by omega) (fun x=>x),q.keep B hB (fun x=>x)]
 .rw[a6,a7];have J:(bytesV (be 4 (x / 4294967296))++[AV.int .u8 (0:Nat), .int .u8 (0:Nat), .int .u8 (0:Nat), .int .u8 (0:Nat)]).take 4=bytesV (be 4 (x / 4294967296)):=yX (hl _);have K:(bytesV (be 4 (x / 4294967296))++[AV.int .u8 (0:Nat), .int .u8 (0:Nat), .int .u8 (0:Nat), .int .u8 (0:Nat)]).drop (4+4)=[]:=qQ (by simp[hl]);rw[J,K,qG]
theorem cloneB_ok(i:h.ok){cc:Nat}{s:Str}(g:h.h.get H=some (.cells (bytesV s) A t W))(K:0<s.length)(hm:s.length<=1000000):
  ∃a H',f148 D n [.slice H 0 s.length cc] h=some (.slice a 0 s.length 1,H')/\Prs h H'/\H'.h.get a=some (.cells (bytesV s) 5 1 true)/\h.next<=a:=by
 have f:Prs h (h.push (.cells [] 5 1 false)):=(jV i).push _;have j:(h.push (.cells [] 5 1 false)).h.get h.next=some (.cells [] 5 1 false):=jK _ _
 have v:(h.push (.cells [] 5 1 false)).next=h.next+1:=rfl
 generalize p:h.push (.cells [] 5 1 false)=H1 at f j v;have x:=jY f i g;have o:srcOf 1 (.slice H 0 s.length cc) H1=some (s.length,bytesV s):=by
  have y:subN (bytesV s) 0 (s.length*1)=some (bytesV s):=by
   rw[subN_some _ _ _ (.inr (by simp[bytesV_length])),yE,zW (by simp[bytesV_length])]
  simp only[srcOf,x,y]
 obtain⟨L,z,C,m,F,G⟩:=(Grow.zero 1 5 j f.ok).app (bytes:=1) f.ok (by decide) o (by simp[bytesV_length]) (bytesV_cells _) (by omega) (by decide);have q:bldL 5 1 0 [.int .u8 (0:Nat)] []=some (.cells [] 5 1 false,fun H=> .slice H 0 0 0):=rfl;have sz:cmpO .eql (eqS (.slice H 0 s.length cc) .nS)=some (.bool false):=rfl;rw[yU,qV]at m;rcases m with⟨_,⟨_,e⟩ | ⟨a,rfl,M,I⟩⟩ | ⟨_,_,_,_,_,_,_,e⟩
 .omega
 .refine⟨a,z, ?_,f.fresh F (fun B J=>by rw[jS.1 J];exact zK _),I, ?_⟩
  .simp only[f148,eZ,pExtract,nth,sz,q,bA_ok i,p,C]
  .rcases G a (jS.2 rfl)with e | e
   .rw[jS.1 e];exact zK _
   .omega
 .omega
theorem newReader_ok(j:h.ok){cc:Nat}{s:Str}(g:h.h.get H=some (.cells (bytesV s) A t W))(o:s.length=8):
  ∃R B H',f121 D n [.slice H 0 8 cc] h=some (.ptr R 0,H')/\Prs h H'/\H'.h.get B=some (.cells (bytesV s) 5 1 true)/\H'.h.get R=some (.cells [.slice B 0 8 1, .bool false] 237 1 false)/\h.next<=R:=by
 obtain⟨B,v,f,a,p,x⟩:=cloneB_ok (cc:=cc) D n j g (by omega) (by omega);rw[o]at f;obtain⟨q,R,b2,i,e,y,z⟩:=box a.ok (.cells [.slice B 0 8 1, .bool false] 237 1 false);have u:bldS [(0,1),(1,1)] [.nS, .bool false] [(0, .slice B 0 8 1)]=some (.agg [.slice B 0 8 1, .bool false]):=rfl;have C:=a.next
 exact⟨R,B,q,by simp(maxSteps:=999999)(disch:=omega) only[f121,eZ,pExtract,nth,f,u,b2],a.trans i,jY i a.ok p,e,by omega⟩
theorem sl_hi4 (g:h.h.get H=some (.cells I J 1 true))(hr:roomOf I true 1 A C 1=t)(B:4<=t):slSl 1 (.slice H A t C) none (some (.int .i64 (4:Nat))) (some (.int .i64 (4:Nat))) h=some (.slice H A 4 8):=by
 have a:=natOf_int .i64 (z:=((4:Nat):Int)) (by omega);simp only[qU]at a;have hb:Nat.blt 0 1=true:=rfl;have b1:Nat.ble 4 t=true:=by rw[qO];exact B
 have b2:Nat.ble 4 4=true:=rfl;simp only[slSl,natOpt,a,g,hb,zP];simp[acut,hr,b1,b2,fN_eq,ble0]
theorem sl_lo4 (g:h.h.get H=some (.cells I J 1 true))(f:(C % 2).beq 0=false)(hr:roomOf I true 1 A C 1=t)(B:4<=t):slSl 1 (.slice H A t C) (some (.int .i64 (4:Nat))) none none h=some (bif Nat.blt 4 t then .slice H (A+4) (t - 4) (C+8)else .eS):=by
 have a:=natOf_int .i64 (z:=((4:Nat):Int)) (by omega);simp only[qU]at a;have hb:Nat.blt 0 1=true:=rfl;have b1:Nat.ble 4 t=true:=by rw[qO];exact B
 have b2:Nat.ble t t=true:=by rw[qO];exact zK _
 have i:Nat.beq 4 0=false:=rfl;simp only[slSl,natOpt,a,g,hb,zP]
 cases j:Nat.blt 4 t<;>simp[acut,hr,f,b1,b2,i,fN_eq,j]
theorem rtake_ok(f:h.ok)(k:h.h.get H=some (.cells [p, .bool false] 237 1 false))(hl:lnSl p=some (.int .i64 A))(F:4<=A)(i:slSl 1 p none (some (.int .i64 (4:Nat))) (some (.int .i64 (4:Nat))) h=some P)(j:slSl 1 p (some (.int .i64 (4:Nat))) none none h=some g)(hr:isCell g=true):
  ∃H',f160 D n [.ptr H 0, .int .i64 (4:Nat)] h=some (.tuple [P, .bool true],H')/\H'.h.get H=some (.cells [g, .bool false] 237 1 false)/\Stp (fun B=>B=H) h H'/\H'.next=h.next:=by
 obtain⟨m,R,q,s,t⟩:=st_fld f k (o:=0) (x:=g) hr (by simp);have u:Eng.ld1 (.ptr H 0) h=some p:=by rw[ld1_get k];rfl
 have y:Eng.ld1 (.ptr H 1) h=some (.bool false):=by rw[ld1_get k];rfl
 have z: ¬((4:Nat):Int)< ((0:Nat):Int):=by omega
 have C: ¬(A:Int)< ((4:Nat):Int):=by omega
 have a: ¬((4:Nat):Int)> (A:Int):=by omega
 refine⟨m, ?_,q,s,t⟩;simp(maxSteps:=999999)(disch:=omega) only[f160,eZ,pExtract,nth,cq,u,y,z,hl,C,a,i,j,R]
theorem orK {k:IntKind}(f:IntKind.signed k=false)(a:kmod k=H)(i: ∀z:Nat,z<H->IntKind.wrap k (z:Int)=(z:Int))(j:keq k k=true){x b:Nat}(m:x<H)(o:x+b<H)(h:Nat.lor x b=x+b):bInt .or (.int k (x:Int)) (.int k (b:Int))=some (.int k ((x+b:Nat):Int)):=by
 have p:Nat.blt x (kmod k)=true:=by rw[q9,a];exact m
 have q:Nat.blt b (kmod k)=true:=by rw[q9,a];omega
 have s:abits .or k (.ofNat x) (.ofNat b)=some (.int k ((x+b:Nat):Int)):=by
  simp only[abits,f,Bool.not_false,p,q,qJ,zP,h,mkI_eq,Int.ofNat_eq_natCast,i _ o]
 have h6:bInt .or (.int k (.ofNat x)) (.int k (.ofNat b))=abits .or k (.ofNat x) (.ofNat b):=by simp only[bInt,abinI,j,zP]
 exact h6.trans s
theorem orW {b:Nat}(f:H<16777216)(hb:b<256): ∃z,bInt .shl (.int .u32 H) (.int .u64 (8:Nat))=some (.int .u32 z)/\bInt .or (.int .u32 z) (.int .u32 b)=some (.int .u32 (H*256+b:Nat)):=by
 refine⟨((H*256:Nat):Int), ?_, ?_⟩
 .rw[bInt_shl _ _ _ (show 8<=32 by omega),wrap_u32];congr 2;omega
 .exact orK (k:= .u32) rfl (show kmod .u32=4294967296 by decide) (fun z h=>by rw[wrap_u32];omega) rfl (by omega) (by omega) (by
   have:=Nat.two_pow_add_eq_or_of_lt (b:=b) (i:=8) (by omega) H;rw[Nat.mul_comm H 256];exact this.symm)
theorem word_ok(hn:10<=n)(Q:h.ok){k o cc':Nat}{r:AV}{a b c d:UInt8}(g:h.h.get H=some (.cells [p, .bool false] 237 1 false))(hl:lnSl p=some (.int .i64 ((k:Nat):Int)))(G:4<=k)(u:h.h.get A=some (.cells I t C W))(S:o+4<=I.length)(hR:A≠H)(s:(I.drop o).take 4=bytesV [a,b,c,d])
  (T:slSl 1 p none (some (.int .i64 (4:Nat))) (some (.int .i64 (4:Nat))) h=some (.slice A o 4 cc')) (U:slSl 1 p (some (.int .i64 (4:Nat))) none none h=some r) (hr:isCell r=true):
  ∃H',f149 D n [.ptr H 0] h=some (.int .u32 (bee [a,b,c,d]:Nat),H')/\H'.h.get H=some (.cells [r, .bool false] 237 1 false)/\Stp (fun B=>B=H) h H':=by
 obtain⟨e,V,Y,j,n1⟩:=rtake_ok D n Q g hl G T U hr;have v:e.h.get A=_:=(j.keep _ (Q.lt u) hR).trans u;have J:ldN 4 (.ptr A o) e=some (.agg (bytesV [a,b,c,d])):=by rw[ldN_ptr v S,s]
 obtain⟨Z,sz,b2,m,g2,m2,n2⟩:=box j.ok (.cells [.int .u8 (0:Nat), .int .u8 (0:Nat), .int .u8 (0:Nat), .int .u8 (0:Nat)] 248 1 false);obtain⟨f,e3,g3,R,n3⟩:=st_all m.ok g2 (l':=bytesV [a,b,c,d]) rfl (bytesV_cells _);have K:stN 4 (.ptr sz 0) (.agg (bytesV [a,b,c,d])) Z=some (undefA,f):=e3;have r3:ldN 4 (.ptr sz 0) f=some (.agg (bytesV [a,b,c,d])):=ldN_all g3 rfl;have L:s2a 4 (.slice A o 4 cc')=some (.ptr A o):=rfl;have la:=a.toNat_lt;have lb:=b.toNat_lt;have lc:=c.toNat_lt;have ld:=d.toNat_lt;have q: ∀(x i:Nat) (y:UInt8),x<16777216->i<4->ixAg1 4 1 (.agg (bytesV [a,b,c,d])) (.int .i64 ((i:Nat):Int))=some (.int .u8 y.toNat)->f149l0 D n [.int .u32 ((x:Nat):Int), .agg (bytesV [a,b,c,d]), .int .i64 ((i:Nat):Int)] f=some (.norm [.int .u32 (x*256+y.toNat:Nat), .agg (bytesV [a,b,c,d]), .int .i64 (i+1:Nat)],f):=fun x i y s hi hy=>by
  have ly:=y.toNat_lt;obtain⟨z,z1,z2⟩:=orW s (show y.toNat<256 by omega);have M:((i:Nat):Int)< ((4:Nat):Int):=by omega
  have hi1:((i:Nat):Int)+((1:Nat):Int)=((i+1:Nat):Int):=by omega
  have cv:cvI .u32 (.int .u8 y.toNat)=some (.int .u32 y.toNat):=by
   rw[cvI_int,wrap_u32];congr 2;omega
  simp(maxSteps:=999999)(disch:=omega) only[f149l0,eZ,pExtract,nth,M,hy,z1,cv,z2,hi1]
 have N: ¬(((0+1+1+1+1:Nat):Nat):Int)< ((4:Nat):Int):=by omega
 obtain⟨n,rfl⟩: ∃k,n=k+5:=⟨n - 5,by omega⟩;have F:bee [a,b,c,d]=(((0*256+a.toNat)*256+b.toNat)*256+c.toNat)*256+d.toNat:=rfl;have O:loopK (n+5) (f149l0 D (n+5)) [.int .u32 (0:Nat), .agg (bytesV [a,b,c,d]), .int .i64 (0:Nat)] f=some (.exit 0 [.int .u32 (bee [a,b,c,d]:Nat)],f):=by
  rw[F,loop_next (q 0 0 a (by omega) (by omega) rfl),loop_next (q _ _ b (by omega) (by omega) rfl),loop_next (q _ _ c (by omega) (by omega) rfl),loop_next (q _ _ d (by omega) (by omega) rfl)];exact loop_exit (by
   simp(maxSteps:=999999)(disch:=omega) only[f149l0,eZ,pExtract,nth,N])
 have N1:=j.next;have N2:=m.next
 refine⟨f, ?_, ?_,⟨R.ok,by omega,fun B hB hS=> ?_⟩⟩
 .simp(maxSteps:=999999)(disch:=omega) only[f149,eZ,pExtract,nth,V,L,J,b2,K,r3,O,f149b1]
 .have lR:=Q.lt g;rw[R.keep _ (by omega) (by omega),m.keep _ (by omega) (fun x=>x)];exact Y
 .rw[R.keep _ (by omega) (by omega),m.keep _ (by omega) (fun x=>x),j.keep B hB hS]
theorem rdLong_ok(v:10<=n)(y:h.ok){s:Str}(j:h.h.get A=some (.cells (bytesV s) 5 1 true))(C:h.h.get H=some (.cells [.slice A 0 8 1, .bool false] 237 1 false))(h8:s.length=8):
  ∃H',f122 D n [.ptr H 0] h=some (.int .u64 (bee s:Nat),H')/\Stp (fun A=>A=H) h H':=by
 obtain⟨a,b,c,d,e,f,g,R,rfl⟩: ∃a b c d e f g R,s=[a,b,c,d,e,f,g,R]:=by
  match s,h8 with
  | [a,b,c,d,e,f,g,R],_=>exact⟨a,b,c,d,e,f,g,R,rfl⟩
 have q:A≠H:=fun e=>by rw[e,C]at j;cases j
 have G:=y.lt j;obtain⟨I,J,K,m⟩:=word_ok (a:=a) (b:=b) (c:=c) (d:=d) (r:= .slice A 4 4 9) (cc':=8) D n v y C (k:=8) rfl (by omega) j (o:=0) (by simp[bytesV_length]) q rfl (sl_hi4 j (by simp[roomOf,lenL_zero,bytesV_length]<;>rfl) (by omega)) (sl_lo4 j rfl (by simp[roomOf,lenL_zero,bytesV_length]<;>rfl) (by omega)) rfl;have t:I.h.get A=_:=(m.keep _ G q).trans j;obtain⟨p,L,M,u⟩:=word_ok (a:=e) (b:=f) (c:=g) (d:=R) (r:= .eS) (cc':=8) D n v m.ok K (k:=4) rfl (by omega) t (o:=4) (by simp[bytesV_length]) q rfl (sl_hi4 t (by simp[roomOf,lenL_zero,bytesV_length]<;>rfl) (by omega)) (sl_lo4 t rfl (by simp[roomOf,lenL_zero,bytesV_length]<;>rfl) (by omega)) rfl;have Q:=m.next
 refine⟨p, ?_,⟨u.ok,by have:=u.next;omega,fun X hX F=>by rw[u.keep X (by omega) F,m.keep X hX F]⟩⟩
 have N:Eng.ld1 (.ptr H 1) p=some (.bool false):=by rw[ld1_get M];rfl
 have ok:f150 D n [.ptr H 0] p=some (.bool true,p):=by
  simp(maxSteps:=999999)(disch:=omega) only[f150,eZ,pExtract,nth,cq,N,Bool.not_false]
 have b1:bee [a,b,c,d]<4294967296:=by
  have:=Nd.bee_lt [a,b,c,d];rw[show[a,b,c,d].length=4 from rfl,show(256:Nat) ^ 4=4294967296 by decide]at this;exact this
 have b2:bee [e,f,g,R]<4294967296:=by
  have:=Nd.bee_lt [e,f,g,R];rw[show[e,f,g,R].length=4 from rfl,show(256:Nat) ^ 4=4294967296 by decide]at this;exact this
 have c1:cvI .u64 (.int .u32 (bee [a,b,c,d]:Nat))=some (.int .u64 (bee [a,b,c,d]:Nat)):=by
  rw[cvI_int,wrap_u64];congr 2;omega
 have c2:cvI .u64 (.int .u32 (bee [e,f,g,R]:Nat))=some (.int .u64 (bee [e,f,g,R]:Nat)):=by
  rw[cvI_int,wrap_u64];congr 2;omega
 have m:bInt .shl (.int .u64 (bee [a,b,c,d]:Nat)) (.int .u64 (32:Nat))=some (.int .u64 (bee [a,b,c,d]*4294967296:Nat)):=by
  rw[bInt_shl _ _ _ (show 32<=64 by omega),wrap_u64];congr 2;omega
 have O:=orK (k:= .u64) rfl (show kmod .u64=18446744073709551616 by decide) (fun z R=>by rw[wrap_u64];omega) rfl (x:=bee [a,b,c,d]*4294967296) (b:=bee [e,f,g,R]) (by omega) (by omega) (by
  have:=Nat.two_pow_add_eq_or_of_lt (b:=bee [e,f,g,R]) (i:=32) (by omega) (bee [a,b,c,d]);rw[Nat.mul_comm (bee [a,b,c,d])];exact this.symm)
 have hb:bee [a,b,c,d,e,f,g,R]=bee [a,b,c,d]*4294967296+bee [e,f,g,R]:=by
  simp only[bee,List.foldl_cons,List.foldl_nil];omega
 rw[hb];simp(maxSteps:=999999)(disch:=omega) only[f122,eZ,pExtract,nth,J,L,ok,c1,m,c2,O]
end Go.Eng.Sh
end
section
namespace Go.Bk
def ringB (g:Nat)(bd:Nd.Str):Nd.Str:=sealB 3 g (Nd.be 8 (sumS bd)++bd)
theorem ringB_len {g:Nat}(h:u.length<=492):(ringB g u).length=512:=sealB_len (by rw[zT,Nd.be_length];omega)
end Go.Bk
namespace Go.Eng
theorem aveqL_row: ∀l:Nd.Str,aveqL (bytesV l) (bytesV l)=true
 | []=>rfl
 | x::l=>by
  have h:=aveqL_row l;simp only[bytesV,y6,aveqL]at h⊢;rw[h];simp[aveq,keq_eq,ieq_eq]
theorem eqA_hd {n:Nat}{x y:UInt8}{c:Nd.Str}(a:x≠y)(hb:u.length=n)(f:c.length=n):eqA (List.replicate (n+1) 7) (.agg (bytesV (x::u))) (.agg (bytesV (y::c)))=some false:=by
 have i:lenL (bytesV (x::u)) 0=n+1:=by rw[lenL_zero,bytesV_length,zV,hb]
 have j:lenL (bytesV (y::c)) 0=n+1:=by rw[lenL_zero,bytesV_length,zV,f]
 have h3:(List.replicate (n+1) 7).length=n+1:=List.length_replicate;have h:=cellEq_int .u8 (x.toNat:Int) (y.toNat:Int);have e:icode .u8=7:=rfl;have m: ¬(x.toNat:Int)=(y.toNat:Int):=fun h=>a (UInt8.toNat_inj.1 (by omega))
 rw[e,decide_eq_false m]at h;simp only[eqA,i,j,h3,yC,qJ,zP];simp only[List.replicate_succ,bytesV,y6,cellsEq,h]
end Go.Eng
namespace Go.Eng.Sh
open Go.Nd (Ptr Str be bee)
open Go.Bk
theorem openz_ok(U:1000<=n)(V:h.ok):
  ∃H',f120 D n [.agg (bytesV (List.replicate 512 0))] h=some (.tuple [.int .u8 (0:Nat), .int .i64 (0:Nat), .str 0 0, .int .i64 (4:Nat)],H')/\Prs h H':=by
 obtain⟨B,i⟩: ∃B:Str,B=List.replicate 512 0:=⟨_,rfl⟩;have I:B.length=512:=by rw[i];simp
 have q: ∀lo k,lo+k<=512->(B.drop lo).take k=List.replicate k 0:=fun lo k H=>by
  rw[i,List.drop_replicate,List.take_replicate,Nat.min_eq_left (by omega)]
 have W:B[4]? =some 0:=by rw[i];rfl
 rw[<-i];obtain⟨f,a,b1,j,m,m1,n1⟩:=box V (.cells (bytesV B) 144 1 false);have Y:slArr 512 1 (.ptr a 0) (some (.int .i64 (6:Nat))) (some (.int .i64 (8:Nat))) none=some (.slice a 6 2 1012):=rfl;have s2:slArr 512 1 (.ptr a 0) (some (.int .i64 (8:Nat))) (some (.int .i64 (12:Nat))) none=some (.slice a 8 4 1008):=rfl;have s3:slArr 512 1 (.ptr a 0) (some (.int .i64 (12:Nat))) (some (.int .u64 (12:Nat))) none=some (.slice a 12 0 1000):=slArr_at (n:=512) (A:=a) (lo:=12) (hi:=12) (by omega) (by omega) (by omega) .i64 .u64;have ix:ixArr 512 1 (.ptr a 0) (.int .i64 (4:Nat))=some (.ptr a 4):=rfl;have t:=rowB (cc:=1012) j.ok m (lo:=6) (k:=2) (by omega);have u:=rowB (cc:=1008) j.ok m (lo:=8) (k:=4) (by omega);have v:=rowB (cc:=1000) j.ok m (lo:=12) (k:=0) (by omega);rw[q 6 2 (by omega)]at t;rw[q 8 4 (by omega)]at u;rw[q 12 0 (by omega)]at v;have e1:f94 D n [.slice a 6 2 1012] f=some (.int .u64 (0:Nat),f):=get_ok D n (l:=[0,0]) t (by decide) (by omega);have e2:f94 D n [.slice a 8 4 1008] f=some (.int .u64 (0:Nat),f):=get_ok D n (l:=[0,0,0,0]) u (by decide) (by omega);have J:cvBS (.slice a 12 0 1000) f=some (S []):=cvBS_row (l:=[]) v (by simp);have r4:Eng.ld1 (.ptr a 4) f=some (.int .u8 (0:Nat)):=ld1_ptr m (by
  rw[bytesV,jG,W];rfl)
 obtain⟨H2,e3,o⟩:=seal_ok D n U j.ok 0 (birth:=0) (by omega) (body:=[]) (by simp);have K:f109 D n [.int .u8 (0:Nat), .int .i64 (0:Nat),S []] f=some (.tuple [.agg (bytesV (sealB 0 0 [])), .int .i64 (0:Nat)],H2):=e3;obtain⟨Z,y⟩: ∃Z:Str,Z=List.replicate 512 0:=⟨_,rfl⟩;have L:Z.length=512:=by rw[y];simp
 have M:rep 512 [AV.int .u8 (0:Nat)]=bytesV Z:=by rw[rep_row,y]
 have s:(sealB 0 0 []).length=512:=sealB_len (by simp);obtain⟨H3,A7,b3,p,g3,m3,n3⟩:=box o.ok (.cells (bytesV Z) 144 1 false);obtain⟨z,e4,g4,C⟩:=stR p.ok g3 L s;have N2:=o.next;have N3:=p.next
 have N:z.h.get a=some (.cells (bytesV B) 144 1 false):=by
  rw[C.keep _ (by omega) (by omega)];exact jY (o.trans p) j.ok m
 have r7:=ldR g4 s;have r1:=ldR N I;have he:cmpO .neq (eqA (List.replicate 512 7) (.agg (bytesV (sealB 0 0 []))) (.agg (bytesV B)))=some (.bool true):=by
  obtain⟨x,F⟩: ∃x,sealB 0 0 []=106::x:=⟨_,rfl⟩;have O:B=0::List.replicate 511 0:=by rw[i];rfl
  have Q:x.length=511:=by rw[F,zV]at s;omega
  rw[F,O,eqA_hd (n:=511) (by decide) Q (by simp)];rfl
 have t1: ¬((500:Nat):Int)< ((0:Nat):Int):=by omega
 have wi:IntKind.wrap .i64 ((0:Nat):Int)=((0:Nat):Int):=wrap_i64 (by omega) (by omega);have G:((12:Nat):Int)+((0:Nat):Int)=((12:Nat):Int):=by omega
 have wu:IntKind.wrap .u64 ((12:Nat):Int)=((12:Nat):Int):=by rw[wrap_u64];omega
 have T: ¬(((0:Nat):Int)≠((0:Nat):Int)):=by omega
 refine⟨z, ?_,((j.trans o).trans p).fresh C fun B i=>by omega⟩;simp(maxSteps:=999999)(disch:=omega) only[f120,eZ,pExtract,nth,b1,Y,e1,t1,ix,r4,s2,e2,cvI_int,wi,G,wu,s3,J,K,M,b3,e4,T,r7,r1,he]
theorem rseal_ok(O:1000<=n){H:AH}(Q:H.ok)(h1:1<=A)(T:A<=2147483647){bd:Str}(hl:bd.length<=492):
  ∃H',f117 D n [.agg [.int .i64 A,S bd]] H=some (.tuple [.agg (bytesV (ringB A bd)), .int .i64 (0:Nat)],H')/\Prs H H':=by
 obtain⟨Z,u⟩: ∃Z:Str,Z=List.replicate 512 0:=⟨_,rfl⟩;have z:Z.length=512:=by rw[u];simp
 have C:rep 512 [AV.int .u8 (0:Nat)]=bytesV Z:=by rw[rep_row,u]
 obtain⟨H1,h,b1,i,U,m1,n1⟩:=box Q (.cells [.int .i64 A,S bd] 107 1 false);obtain⟨p,A2,b2,a,V,m2,n2⟩:=box i.ok (.cells (bytesV Z) 144 1 false);have W:=dsum_ok D n (H:=p) bd (by omega) (by omega);obtain⟨j,Y,e3,f,v⟩:=long_ok D n a.ok (sumS bd) (sumS_lt bd);have F:cvBS (.slice Y 0 8 16) j=some (S (be 8 (sumS bd))):=cvBS_row (n:=8) (l:=be 8 (sumS bd)) ⟨by rw[bytesV_length,Nd.be_length], .inr (.inr ⟨_,_,_,_,_,_,_,rfl,v,f.ok.lt v,by rw[bytesV_length,Nd.be_length];omega,by rw[yE,zW (by rw[bytesV_length,Nd.be_length];omega)]⟩)⟩ (by simp);have y:bStr .add (S (be 8 (sumS bd))) (S bd)=some (S (be 8 (sumS bd)++bd)):=bStr_add _ _ (by rw[Nd.be_length];omega);have G:(be 8 (sumS bd)++bd).length<=500:=by rw[zT,Nd.be_length];omega
 obtain⟨H4,e4,m⟩:=seal_ok D n O f.ok 3 (birth:=A) T G;have I:f109 D n [.int .u8 (3:Nat), .int .i64 A,S (be 8 (sumS bd)++bd)] j=some (.tuple [.agg (bytesV (ringB A bd)), .int .i64 (0:Nat)],H4):=e4;have s:=ringB_len (g:=A) hl;have J:=jY (f.trans m) a.ok V;obtain⟨H5,e5,g5,q⟩:=stR m.ok J z s;have r5:=ldR g5 s;have o:=jY a i.ok U;have t:=jY f a.ok o;have K:Eng.ld1 (.ptr h 0) p=some (.int .i64 A):=by rw[ld1_get o];rfl
 have L:Eng.ld1 (.ptr h 1) p=some (S bd):=by rw[ld1_get o];rfl
 have M:Eng.ld1 (.ptr h 0) j=some (.int .i64 A):=by rw[ld1_get t];rfl
 have N:Eng.ld1 (.ptr h 1) j=some (S bd):=by rw[ld1_get t];rfl
 have t1: ¬(A:Int)< ((1:Nat):Int):=by omega
 have t2: ¬((2147483647:Nat):Int)< (A:Int):=by omega
 have t3: ¬((492:Nat):Int)< (bd.length:Int):=by omega
 have N1:=i.next;have N2:=a.next;have N3:=f.next;have N4:=m.next
 refine⟨H5, ?_,⟨q.ok,by have:=q.next;omega,fun B hB _=> ?_⟩⟩
 .simp(maxSteps:=999999)(disch:=omega) only[f117,eZ,pExtract,nth,b1,C,b2,K,t1,t2,L,lnStr_S,t3,W,e3,M,F,N,y,I,e5,r5]
 .rw[q.keep B (by omega) (by omega)];exact(((i.trans a).trans f).trans m).keep B hB (fun x=>x)
theorem place_ok{H:AH}(g:Nat):f93 D n [.int .i64 g] H=some (.int .i64 (g % 2:Nat),H):=by
 have t1: ¬(g:Int)< ((0:Nat):Int):=by omega
 have hr:bInt .rem (.int .i64 g) (.int .i64 (2:Nat))=some (.int .i64 (g % 2:Nat)):=by
  rw[bInt_rem _ _ _ (by omega)];congr 2
 simp(maxSteps:=999999)(disch:=omega) only[f93,eZ,pExtract,nth,t1,hr]
theorem rput_ok(N:1000<=n){H:AH}(y:H.ok)(d:DkI H A t B C J p L)(a0:2<=t)(O:B.length<1000000)(es:1<=Q)(T:Q<=2147483647){bd:Str}(hl:bd.length<=492):
  ∃H' v es',f89 D n [.ptr A 0, .agg [.int .i64 Q,S bd]] H=some (.int .i64 (0:Nat),H')/\DkI H' A t (B++[(Q % 2,ringB Q bd)]) C J v es'/\Stp (fun nb=>nb=A\/nb=J\/Blk p nb) H H'/\(∀nb,Blk v nb->Blk p nb\/H.next<=nb):=by
 obtain⟨Z,z⟩: ∃Z:Str,Z=List.replicate 512 0:=⟨_,rfl⟩;have F:Z.length=512:=by rw[z];simp
 have G:rep 512 [AV.int .u8 (0:Nat)]=bytesV Z:=by rw[rep_row,z]
 have o:=ringB_len (g:=Q) hl;obtain⟨U,q,b1,a,On,m1,n1⟩:=box y (.cells [.int .i64 Q,S bd] 107 1 false);have V:ldN 2 (.ptr q 0) U=some (.agg [.int .i64 Q,S bd]):=ldN_all On rfl;obtain⟨H2,W,f⟩:=rseal_ok D n N a.ok es T hl;obtain⟨H3,A3,Y,i,g3,m3,n3⟩:=box f.ok (.cells (bytesV Z) 144 1 false);obtain⟨j,e4,g4,s⟩:=stR i.ok g3 F o;have N1:=a.next;have N2:=f.next;have N3:=i.next;have N4:=s.next
 have Ad:Prs H j:=((a.trans f).trans i).fresh s fun nb m=>by omega
 have I:j.h.get q=_:=(s.keep _ (by omega) (by omega)).trans (jY (f.trans i) a.ok On);have r0:Eng.ld1 (.ptr q 0) j=some (.int .i64 Q):=by rw[ld1_get I];rfl
 have r4:=ldR g4 o;have hp:=place_ok D n (H:=j) Q;have ck: ∀K:Rs,chk (some (.agg (bytesV (ringB Q bd)))) (.agg (bytesV (ringB Q bd))) K=K:=fun K=>chk_ok rfl (show aveq (.agg (bytesV (ringB Q bd))) (.agg (bytesV (ringB Q bd)))=true by rw[aveq];exact aveqL_row _)
 obtain⟨H5,Nw,wv,e5,d5,u,f5⟩:=dkwrite_ok D n Ad.ok (d.prs y Ad) (show Q % 2<t by omega) o O;have M: ¬(((0:Nat):Int)≠((0:Nat):Int)):=by omega
 refine⟨H5,Nw,wv, ?_,d5,⟨u.ok,by have:=u.next;omega,fun nb m hS=> ?_⟩,fun nb m=> ?_⟩
 .simp(maxSteps:=999999)(disch:=omega) only[f89,eZ,pExtract,nth,cq,b1,V,W,G,Y,e4,M,r0,r4,hp,ck,e5]
 .rw[u.keep nb (by omega) hS,Ad.keep nb m (fun x=>x)]
 .rcases f5 nb m with h | h
  .exact .inl h
  .exact .inr (by omega)
def RingB (b:Str)(i m:Nat)(s:Str)(a:Nat)(f:Str):Prop:=
 (b=List.replicate 512 0/\a=m/\f=s)\/(∃g bd,b=ringB g bd/\1<=g/\g<=2147483647/\bd.length<=492/\g % 2=i/\((m<g/\a=g/\f=bd)\/(g<=m/\a=m/\f=s)))
theorem ropen_ok(hn:1000<=n){H:AH}(hk:H.ok)(h1:1<=A)(h2:A<=2147483647){bd:Str}(hl:bd.length<=492):
  ∃H',f92 D n [.agg (bytesV (ringB A bd))] H=some (.tuple [.agg [.int .i64 A,S bd], .int .i64 (0:Nat)],H')/\Prs H H':=by
 have O:=ringB_len (g:=A) hl;have Q:(be 8 (sumS bd)++bd).length<=500:=by rw[zT,Nd.be_length];omega
 have v:(be 8 (sumS bd)++bd).length=8+bd.length:=by rw[zT,Nd.be_length]
 obtain⟨H1,A1,b1,m,g1,m1,n1⟩:=box hk (.cells (bytesV (ringB A bd)) 144 1 false);obtain⟨H2,o,b2,p,g2,m2,n2⟩:=box m.ok (.cells [.int .i64 (0:Nat), .str 0 0] 107 1 false);have r1:=ldR (jY p m.ok g1) O;obtain⟨H3,e3,q⟩:=open_ok D n hn p.ok 3 (birth:=A) h2 Q;have T:f120 D n [.agg (bytesV (ringB A bd))] H2=some (.tuple [.int .u8 (3:Nat), .int .i64 A,S (be 8 (sumS bd)++bd), .int .i64 (0:Nat)],H3):=e3;have U:slStr (S (be 8 (sumS bd)++bd)) (some (.int .i64 (8:Nat))) none=some (S bd):=by
  rw[slStr_lo _ _ (by omega) (by rw[v];omega)];exact congrArg (fun z=>some (S z)) (yO (Nd.be_length _ _))
 have V:slStr (S (be 8 (sumS bd)++bd)) none (some (.int .i64 (8:Nat)))=some (S (be 8 (sumS bd))):=by
  rw[slStr_hi _ _ (by omega) (by rw[v];omega)];exact congrArg (fun z=>some (S z)) (yX (Nd.be_length _ _))
 have bs:bldS [(0,1),(1,1)] [.int .i64 (0:Nat), .str 0 0] [(0, .int .i64 A),(1,S bd)]=some (.agg [.int .i64 A,S bd]):=rfl;obtain⟨H4,A4,b4,s,g4,m4,n4⟩:=box q.ok (.cells [.int .i64 (0:Nat), .str 0 0] 107 1 false);obtain⟨a,e5,g5,t,n5⟩:=st_all s.ok g4 (l':=[.int .i64 A,S bd]) rfl rfl;have W:stN 2 (.ptr A4 0) (.agg [.int .i64 A,S bd]) H4=some (undefA,a):=e5;have Y:cvSB 5 (S (be 8 (sumS bd)))=some (.cells (bytesV (be 8 (sumS bd))) 5 1 true,fun g=> .slice g 0 8 1):=by
  have:=cvSB_S (be 8 (sumS bd)) (by rw[Nd.be_length];omega);rw[Nd.be_length]at this;exact this
 have N1:=m.next;have N2:=p.next;have N3:=q.next;have N4:=s.next
 have u:Prs a (a.push (.cells (bytesV (be 8 (sumS bd))) 5 1 true)):=(jV t.ok).push _;have y:=jK a (.cells (bytesV (be 8 (sumS bd))) 5 1 true);have L:=jL a (.cells (bytesV (be 8 (sumS bd))) 5 1 true);have C: ∀K:AV->AH->Rs,bA (some (.cells (bytesV (be 8 (sumS bd))) 5 1 true,fun g=> .slice g 0 8 1)) a K=K (.slice a.next 0 8 1) (a.push (.cells (bytesV (be 8 (sumS bd))) 5 1 true)):=fun K=>by rw[bA_ok t.ok]
 generalize a.push (.cells (bytesV (be 8 (sumS bd))) 5 1 true)=H6 at u y L C;generalize a3:a.next=A6 at y L C
 obtain⟨R,B,M,e7,F,gB,gR,lR⟩:=newReader_ok (cc:=1) D n u.ok y (Nd.be_length _ _);obtain⟨f,N,G⟩:=rdLong_ok D n (by omega) F.ok gB gR (Nd.be_length _ _);rw[Nd.bee_be,Nat.mod_eq_of_lt (show sumS bd<256 ^ 8 from sumS_lt bd)]at N;have N6:=u.next;have N7:=F.next;have N8:=G.next
 have j: ∀ {X:AH},a.next<=X.next->(∀B,B<a.next->X.h.get B=a.h.get B)->X.h.get A4=some (.cells [.int .i64 A,S bd] 107 1 false):=fun {X} _ hx=>by rw[hx A4 (by omega)];exact g5
 have k6: ∀B,B<a.next->H6.h.get B=a.h.get B:=fun B i=>u.keep B i (fun x=>x)
 have k7: ∀B,B<a.next->M.h.get B=a.h.get B:=fun B i=>by rw[F.keep B (by omega) (fun x=>x),k6 B i]
 have k8: ∀B,B<a.next->f.h.get B=a.h.get B:=fun B i=>by rw[G.keep B (by omega) (by omega),k7 B i]
 have r6:Eng.ld1 (.ptr A4 1) H6=some (S bd):=by rw[ld1_get (j (by omega) k6)];rfl
 have r7:Eng.ld1 (.ptr A4 1) M=some (S bd):=by rw[ld1_get (j (by omega) k7)];rfl
 have r8:Eng.ld1 (.ptr A4 1) f=some (S bd):=by rw[ld1_get (j (by omega) k8)];rfl
 have l8:ldN 2 (.ptr A4 0) f=some (.agg [.int .i64 A,S bd]):=ldN_all (j (by omega) k8) rfl;have ck: ∀K:Rs,chk (some (S bd)) (S bd) K=K:=fun K=>chk_ok rfl (aveq_S _)
 have hs:=dsum_ok D n (H:=f) bd (by omega) (by omega);have Z:f.h.get o=some (.cells [.int .i64 (0:Nat), .str 0 0] 107 1 false):=by
  rw[k8 o (by omega),t.keep _ (by omega) (by omega),s.keep _ (by omega) (fun x=>x),q.keep _ (by omega) (fun x=>x)];exact g2
 obtain⟨I,e9,g9,J,n9⟩:=st_all G.ok Z (l':=[.int .i64 A,S bd]) rfl rfl;have a0:stN 2 (.ptr o 0) (.agg [.int .i64 A,S bd]) f=some (undefA,I):=e9;have l9:ldN 2 (.ptr o 0) I=some (.agg [.int .i64 A,S bd]):=ldN_all g9 rfl;have a1: ¬(((0:Nat):Int)≠((0:Nat):Int)):=by omega
 have t33: ¬(((3:Nat):Int)≠((3:Nat):Int)):=by omega
 have tl: ¬(((be 8 (sumS bd)++bd).length:Nat):Int)< ((8:Nat):Int):=by rw[v];omega
 have tg: ¬(A:Int)< ((1:Nat):Int):=by omega
 have a2: ¬(((sumS bd:Nat):Int)≠((sumS bd:Nat):Int)):=by omega
 refine⟨I, ?_,⟨J.ok,by have:=J.next;omega,fun X hX _=> ?_⟩⟩
 .simp(maxSteps:=999999)(disch:=omega) only[f92,eZ,pExtract,nth,b1,b2,r1,T,a1,t33,lnStr_S,tl,tg,U,bs,b4,W,V,Y,C,r6,e7,r7,ck,N,r8,hs,a2,l8,a0,l9]
 .rw[J.keep X (by omega) (by omega),k8 X (by omega),t.keep X (by omega) (by omega)];exact(((m.trans p).trans q).trans s).keep X hX (fun x=>x)
theorem ropenz_ok(t:1000<=n)(u:h.ok):
  ∃H',f92 D n [.agg (bytesV (List.replicate 512 0))] h=some (.tuple [.agg [.int .i64 (0:Nat), .str 0 0], .int .i64 (4:Nat)],H')/\Prs h H':=by
 obtain⟨Z,j⟩: ∃Z:Str,Z=List.replicate 512 0:=⟨_,rfl⟩;have p:Z.length=512:=by rw[j];simp
 obtain⟨K,L,b1,f,v,M,N⟩:=box u (.cells (bytesV Z) 144 1 false);obtain⟨O,m,b2,a,x,Q,S⟩:=box f.ok (.cells [.int .i64 (0:Nat), .str 0 0] 107 1 false);have y:=ldR (jY a f.ok v) p;obtain⟨z,o,H⟩:=openz_ok D n t a.ok;rw[<-j]at o⊢;have q:=jY H a.ok x;have C:bldS [(0,1),(1,1)] [.int .i64 (0:Nat), .str 0 0] []=some (.agg [.int .i64 (0:Nat), .str 0 0]):=rfl;obtain⟨i,F,G,I,T⟩:=st_all H.ok q (l':=[.int .i64 (0:Nat), .str 0 0]) rfl rfl;have s:stN 2 (.ptr m 0) (.agg [.int .i64 (0:Nat), .str 0 0]) z=some (undefA,i):=F;have J:ldN 2 (.ptr m 0) i=some (.agg [.int .i64 (0:Nat), .str 0 0]):=ldN_all G rfl;have t40:decide (((4:Nat):Int)≠((0:Nat):Int))=true:=by decide
 have U:=a.next
 refine⟨i, ?_,((f.trans a).trans H).fresh I fun B V=>by omega⟩;simp(maxSteps:=999999)(disch:=omega) only[f92,eZ,pExtract,nth,b1,b2,y,o,t40,Bool.true_or,C,s,J]
open Go.Nd (mayP encP)
theorem nstep(hn:1000<=n){H:AH}(y:H.ok)(d:DkI H A t B C J p L)(a5:2<=t){X2 X4 i m:Nat}{s s':Str}(M:H.h.get X4=some (.cells [.int .i64 m,S s] 107 1 false))(hi:i<2)(N:RingB (blkZ i B) i m s Q s'):
  ∃H',f58l1 D n [.ptr A 0, .ptr X2 0, .ptr X4 0, .int .i64 i] H=some (.norm [.ptr A 0, .ptr X2 0, .ptr X4 0, .int .i64 (i+1:Nat)],H')/\H'.h.get X4=some (.cells [.int .i64 Q,S s'] 107 1 false)/\Stp (fun nb=>nb=X4) H H':=by
 obtain⟨Z,hZ⟩: ∃Z:Str,Z=List.replicate 512 0:=⟨_,rfl⟩;have a3:Z.length=512:=by rw[hZ];simp
 have F:rep 512 [AV.int .u8 (0:Nat)]=bytesV Z:=by rw[rep_row,hZ]
 obtain⟨H1,O,es⟩:=dkread_ok D n y d (k:=i) (by omega);have a0:(blkZ i B).length=512:=blkZ_len d.ln;obtain⟨H2,A2,b2,T,g2,m2,n2⟩:=box es.ok (.cells (bytesV Z) 144 1 false);obtain⟨H3,U,g3,s3⟩:=stR T.ok g2 a3 a0;have V:=ldR g3 a0;have N1:=es.next;have N2:=T.next;have N3:=s3.next
 have z:Prs H H3:=(es.trans T).fresh s3 fun nb j=>by omega
 have G:(i:Int)< ((2:Nat):Int):=by omega
 have hi1:(i:Int)+((1:Nat):Int)=((i+1:Nat):Int):=by omega
 have I: ¬(((0:Nat):Int)≠((0:Nat):Int)):=by omega
 have lX:=y.lt M;rcases N with⟨hb,rfl,rfl⟩ | ⟨g,bd,hb,h1,h2,hl,hg,N⟩
 .obtain⟨H4,q,o⟩:=ropenz_ok D n hn z.ok;rw[<-hb]at q;obtain⟨W,Ad,On,wv,Y,m5,n5⟩:=box o.ok (.cells [.int .i64 (0:Nat), .str 0 0] 107 1 false);obtain⟨a,e6,g6,u,n6⟩:=st_all wv.ok Y (l':=[.int .i64 (0:Nat), .str 0 0]) rfl rfl;have v:stN 2 (.ptr Ad 0) (.agg [.int .i64 (0:Nat), .str 0 0]) W=some (undefA,a):=e6;have N4:=o.next;have N5:=wv.next;have N6:=u.next
  have f:Prs H a:=((z.trans o).trans wv).fresh u fun nb j=>by omega
  have t40: ¬(((4:Nat):Int)=((0:Nat):Int)):=by omega
  refine⟨a, ?_,jY f y M,⟨f.ok,f.next,fun nb j _=>f.keep nb j (fun x=>x)⟩⟩
  simp(maxSteps:=999999)(disch:=omega) only[f58l1,eZ,pExtract,nth,G,O,F,b2,U,I,V,q,On,v,t40,f58j0,hi1]
 .obtain⟨H4,q,o⟩:=ropen_ok D n hn z.ok h1 h2 hl;rw[<-hb]at q;obtain⟨W,Ad,On,wv,Y,m5,n5⟩:=box o.ok (.cells [.int .i64 (0:Nat), .str 0 0] 107 1 false);obtain⟨a,e6,g6,u,n6⟩:=st_all wv.ok Y (l':=[.int .i64 g,S bd]) rfl rfl;have v:stN 2 (.ptr Ad 0) (.agg [.int .i64 g,S bd]) W=some (undefA,a):=e6;have N4:=o.next;have N5:=wv.next;have N6:=u.next
  have f:Prs H a:=((z.trans o).trans wv).fresh u fun nb j=>by omega
  have a1:Eng.ld1 (.ptr Ad 0) a=some (.int .i64 g):=by rw[ld1_get g6];rfl
  have Nw:=jY f y M;have a2:Eng.ld1 (.ptr X4 0) a=some (.int .i64 m):=by rw[ld1_get Nw];rfl
  have l6:ldN 2 (.ptr Ad 0) a=some (.agg [.int .i64 g,S bd]):=ldN_all g6 rfl;have hp:=place_ok D n (H:=a) g;rw[hg]at hp;rcases N with⟨a6,u1,u2⟩ | ⟨a7,u1,u2⟩
  .rw[u1,u2];obtain⟨H7,e7,g7,s7,n7⟩:=st_all f.ok Nw (l':=[.int .i64 g,S bd]) rfl rfl;have a4:stN 2 (.ptr X4 0) (.agg [.int .i64 g,S bd]) a=some (undefA,H7):=e7;have K:(m:Int)< (g:Int):=by omega
   have NP:=f.next
   refine⟨H7, ?_,g7,⟨s7.ok,by have:=s7.next;omega,fun nb j hS=>by rw[s7.keep nb (by omega) hS,f.keep nb j (fun x=>x)]⟩⟩
   simp(maxSteps:=999999)(disch:=omega) only[f58l1,eZ,pExtract,nth,G,O,F,b2,U,I,V,q,On,v,a1,hp,a2,K,l6,a4,f58j0,hi1]
  .rw[u1,u2];have K: ¬(m:Int)< (g:Int):=by omega
   refine⟨a, ?_,Nw,⟨f.ok,f.next,fun nb j _=>f.keep nb j (fun x=>x)⟩⟩
   simp(maxSteps:=999999)(disch:=omega) only[f58l1,eZ,pExtract,nth,G,O,F,b2,U,I,V,q,On,v,a1,hp,a2,K,f58j0,hi1]
def NewB (a:Ws)(g:Nat)(bd:Str):Prop:=1<=g/\ ∃m s,RingB (blkZ 0 a) 0 0 [] m s/\RingB (blkZ 1 a) 1 m s g bd
theorem newest_ok(K:1000<=n)(v:h.ok)(d:DkI h H A B t C p L)(es:2<=A){bd:Str}(Ad:NewB B J bd):
  ∃H',f58 D n [.ptr H 0] h=some (.tuple [.agg [.int .i64 J,S bd], .int .i64 (0:Nat)],H')/\Prs h H':=by
 obtain⟨hg,m,s,T,U⟩:=Ad;obtain⟨H1,f,b1,Nw,V,m1,n1⟩:=box v (.cells [.int .i64 (0:Nat), .str 0 0] 107 1 false);obtain⟨z,a,b2,On,W,m2,n2⟩:=box Nw.ok (.cells [.int .i64 (0:Nat), .str 0 0] 107 1 false);have q:=Nw.trans On;have N1:=Nw.next;have N2:=On.next
 have N: ∀ {X:AH},Stp (fun nb=>nb=a) z X->DkI X H A B t C p L:=fun {X} s=>d.prs v (q.fresh s fun nb y=>by omega)
 obtain⟨H3,Y,Z,o⟩:=nstep D n K q.ok (d.prs v q) es (X2:=f) (X4:=a) (i:=0) (m:=0) (s:=[]) W (by omega) T;have d3:=N o;obtain⟨j,e4,wv,F⟩:=nstep D n K o.ok d3 es (X2:=f) (X4:=a) (i:=1) Z (by omega) U;have u:Stp (fun nb=>nb=a) z j:=⟨F.ok,by have:=o.next;have:=F.next;omega,fun nb y M=>by rw[F.keep nb (by have:=o.next;omega) M,o.keep nb y M]⟩
 obtain⟨n,rfl⟩: ∃k,n=k+3:=⟨n - 3,by omega⟩;have hx: ¬(((0+1+1:Nat):Nat):Int)< ((2:Nat):Int):=by omega
 have hl:loopK (n+3) (f58l1 D (n+3)) [.ptr H 0, .ptr f 0, .ptr a 0, .int .i64 (0:Nat)] z=some (.exit 0 [.ptr f 0, .ptr a 0],j):=by
  rw[loop_next Y,loop_next e4];refine loop_exit ?_;simp(maxSteps:=999999)(disch:=omega) only[f58l1,eZ,pExtract,nth,hx]
 have r4:Eng.ld1 (.ptr a 0) j=some (.int .i64 J):=by rw[ld1_get wv];rfl
 have l4:ldN 2 (.ptr a 0) j=some (.agg [.int .i64 J,S bd]):=ldN_all wv rfl;have O:j.h.get f=_:=(u.keep _ (by omega) (by omega)).trans (jY On Nw.ok V);obtain⟨G,e5,g5,I,n5⟩:=st_all u.ok O (l':=[.int .i64 J,S bd]) rfl rfl;have Q:stN 2 (.ptr f 0) (.agg [.int .i64 J,S bd]) j=some (undefA,G):=e5;have l5:ldN 2 (.ptr f 0) G=some (.agg [.int .i64 J,S bd]):=ldN_all g5 rfl;have tg: ¬(J:Int)=((0:Nat):Int):=by omega
 have NS:=u.next;have N5:=I.next
 refine⟨G, ?_,⟨I.ok,by omega,fun nb y _=>by rw[I.keep nb (by omega) (by omega),u.keep nb (by omega) (by omega),q.keep nb y (fun x=>x)]⟩⟩;simp(maxSteps:=999999)(disch:=omega) only[f58,eZ,pExtract,nth,cq,b1,b2,hl,f58b2,r4,tg,l4,Q,l5]
theorem tput_ok(z:1000<=n)(o:h.ok)(d:DkI h H A B t C P L)(f:2<=A)(On:B.length<1000000){g:Nat}(F:1<=g)(G:g<=2147483647){p:Ptr}(hp:mayP p=true)(I:Nd.sumOk p){x:Str}(hl:x.length<=476):
  ∃H' m es',f56 D n [.ptr H 0, .int .i64 g, .agg (ptrV p),S x] h=some (.int .i64 (0:Nat),H')/\DkI H' H A (B++[(g % 2,ringB g (encP p++x))]) t C m es'/\Stp (fun nb=>nb=H\/nb=C\/Blk P nb) h H'/\(∀nb,Blk m nb->Blk P nb\/h.next<=nb):=by
 obtain⟨J,K,b1,q,Nw,Z,n1⟩:=box o (.cells (ptrV p) 38 1 false);have M:ldN 3 (.ptr K 0) J=some (.agg (ptrV p)):=ldN_all Nw rfl;obtain⟨H2,N,O⟩:=encPtr_ok D n q.ok hp I (by omega);have Y:(encP p).length=16:=Nd.encP_length p;have s:bStr .add (S (encP p)) (S x)=some (S (encP p++x)):=bStr_add _ _ (by omega);have Q:bldS [(0,1),(1,1)] [.int .i64 (0:Nat), .str 0 0] [(0, .int .i64 g),(1,S (encP p++x))]=some (.agg [.int .i64 g,S (encP p++x)]):=rfl;have a:=q.trans O;obtain⟨T,u,v,U,V,i,f3⟩:=rput_ok D n z a.ok (d.prs o a) f On F G (bd:=encP p++x) (by rw[zT];omega);have y: ¬(((0:Nat):Int)≠((0:Nat):Int)):=by omega
 have NP:=a.next;have N3:=i.next
 refine⟨T,u,v, ?_,V,⟨i.ok,by omega,fun nb j W=>by rw[i.keep nb (by omega) W,a.keep nb j (fun x=>x)]⟩,fun nb j=> ?_⟩
 .simp(maxSteps:=999999)(disch:=omega) only[f56,eZ,pExtract,nth,b1,M,N,y,s,Q,U]
 .rcases f3 nb j with Ad | Ad
  .exact .inl Ad
  .exact .inr (by omega)
theorem format_ok(s:2000000<=n)(nb:h.ok)(d:DkI h H A [] t C P L)(m:2<=A):
  ∃H' f,f27 D n [.ptr H 0] h=some (.int .i64 (0:Nat),H')/\DkI H' H A [(1,ringB 1 (encP pZ))] t C .nS ⟨[],f,[(1,ringB 1 (encP pZ))],[]⟩/\Stp (fun B=>B=H\/B=t\/B=C\/Blk P B) h H':=by
 obtain⟨u,I,J,v,j,Ad,K⟩:=tput_ok D n (by omega) nb d m (by simp) (g:=1) (by omega) (by omega) (p:=pZ) rfl (by simp[Nd.sumOk,pZ]) (x:=[]) (by simp);rw[qG]at j;obtain⟨y,f,z,On,i⟩:=flush_ok D n s Ad.ok j;have F:bldS [(0,1),(1,1),(2,1)] [.int .i64 (0:Nat), .int .i64 (0:Nat), .int .u64 (0:Nat)] []=some (.agg (ptrV pZ)):=rfl;have o:f56 D n [.ptr H 0, .int .i64 (1:Nat), .agg (ptrV pZ), .str 0 0] h=some (.int .i64 (0:Nat),u):=v;have q: ¬(((0:Nat):Int)≠((0:Nat):Int)):=by omega
 have Nw:=Ad.next;have M:=i.next
 refine⟨y,f, ?_,On,⟨i.ok,by omega,fun B G a=> ?_⟩⟩
 .simp(maxSteps:=999999)(disch:=omega) only[f27,eZ,pExtract,nth,cq,F,o,q,z]
 .rw[i.keep B (by omega) (fun e=>by rcases e with e | e | e;exact a (.inl e);exact a (.inr (.inl e));exact a (.inr (.inr (.inl e)))),Ad.keep B G (fun e=>by rcases e with e | e | e;exact a (.inl e);exact a (.inr (.inr (.inl e)));exact a (.inr (.inr (.inr e))))]
open Go.Bt
structure Rdg (At E0:Nat)(Q:Ptr->Option Nd.Node)(G:AH->Prop)(Rf:Nat->Prop):Prop where
 ok: ∀ {H},G H->H.ok
 lt: ∀ {H},G H-> ∀B,Rf B->B<H.next
 frame: ∀ {H H' S},G H->Stp S H H'->(∀B,S B->B<H.next-> ¬Rf B)->G H'
 er: ∀ {H},G H->Eng.ld1 (.ptr E0 0) H=some (.int .i64 (0:Nat))
 load: ∀ {H p nd} (m n:Nat),200000000<=n->G H->Q p=some nd-> ∃v H',f125 (dy (m+1)) n [.ptr At 0, .agg (ptrV p)] H=some (.tuple [v, .int .i64 (0:Nat)],H')/\Prs H H'/\NodeG H' v nd/\ ∀B,blkN v B->H.next<=B
theorem Rdg.prs (r:Rdg H A G a v)(g:a h)(s:Prs h Y):a Y:=r.frame g s fun _ At=>At.elim
structure Yld (y:AV)(M:Nat)(T:List Int)(P:Nat->AH->Prop)(Wy Ow:Nat->Prop):Prop where
 cell:Eng.isCell y=true
 sub: ∀B,Wy B->Ow B
 ok: ∀ {i H},P i H->H.ok
 lt: ∀ {i H},P i H-> ∀B,Ow B->B<H.next
 frame: ∀ {i H H' S},P i H->Stp S H H'->(∀B,S B-> ¬Ow B)->P i H'
 run: ∀ {i H} (h:i<T.length) (m n:Nat),M<=m->P i H-> ∃H',callV [(125,f125 (dy (m+1)) n)] (dy (m+1)) y [.int .i64 T[i]] H=some (.bool true,H')/\P (i+1) H'/\Stp Wy H H'
theorem Yld.prs (y:Yld p H c N v F)(M:N A h)(s:Prs h Y):N A Y:=y.frame M s fun _ M=>M.elim
def lpB (X:Nat):ALoop:=⟨.ready,none,124,0,[4],[.ptr X 0]⟩
theorem callBl (m k:Nat)(f:h.h.get H=some (.loop (lpB A)))(a:List AV):callV [(125,f125 (dy (m+1)) k)] (dy (m+1)) (.yT H) a h=r124_0 (dy m) m H (lpB A) a h:=by
 show rdOfT (tabR (dy m) m) H a h=_;simp only[rdOfT,f];rfl
theorem Yld.nest (T:Yld p H c N v F){A X:Nat}(z: ¬F A)(hX: ¬v X)(G:X≠A):
  Yld (.yT A) (H+1) c (fun i M=>N i M/\M.h.get A=some (.loop (lpB X))/\Box M X p) (fun B=>v B\/B=A) (fun B=>F B\/B=A\/B=X) where
 cell:=rfl
 sub:=fun B h=>by rcases h with h | h;exact .inl (T.sub B h);exact .inr (.inl h)
 ok:=fun h=>T.ok h.1
 lt:=fun h B a=>by
  rcases a with e | rfl | rfl
  .exact T.lt h.1 B e
  .exact(T.ok h.1).lt h.2.1
  .obtain⟨_,g⟩:=h.2.2;exact(T.ok h.1).lt g
 frame:=fun {i M H' S} h s o=>by
  refine⟨T.frame h.1 s fun B a w=>o B a (.inl w), ?_, ?_⟩
  .rw[s.keep _ ((T.ok h.1).lt h.2.1) (fun w=>o A w (.inr (.inl rfl)))];exact h.2.1
  .exact h.2.2.mono (T.ok h.1) s fun w=>o X w (.inr (.inr rfl))
 run:=fun {i M} hi m n hm h=>by
  obtain⟨hp,t,W⟩:=h;obtain⟨m,rfl⟩: ∃k,m=k+1:=⟨m - 1,by omega⟩;have u:=T.ok hp;have f:Stp (fun B=>B=A) M (M.put A (.loop { lpB X with state:= .busy})):=(jV u).put (u.lt t) _ (.inr rfl);have C:(M.put A (.loop { lpB X with state:= .busy})).h.get A=some (.loop { lpB X with state:= .busy}):=by rw[jO,if_pos rfl]
  have x: ∀K:AH->Rs,beginK A M K=K (M.put A (.loop { lpB X with state:= .busy})):=fun K=>by
   simp only[beginK,t,lpB,putA_ok]
  generalize M.put A (.loop { lpB X with state:= .busy})=H1 at f C x;have O:=T.frame hp f fun B a w=>z (a▸w)
  have I:Box H1 X p:=W.mono u f G;obtain⟨y,Y,Q,j⟩:=T.run hi m (m+1) (by omega) O;have J:y.h.get A=some (.loop { lpB X with state:= .busy}):=by rw[j.keep _ (f.ok.lt C) (fun w=>z (T.sub _ w))];exact C
  have q:Stp (fun B=>B=A) y (y.put A (.loop (lpB X))):=(jV j.ok).put (j.ok.lt J) _ (.inr rfl);have P:endR A none y=some (.bool true,y.put A (.loop (lpB X))):=by
   simp only[endR,J,putA_ok,lpB]
  have Z:=u.lt t;have N1:=f.next;have N2:=j.next
  have U:Box y X p:=I.mono f.ok j hX;refine⟨_, ?_,⟨T.frame Q q fun B a w=>z (a▸w),by rw[jO,if_pos rfl],U.mono j.ok q G⟩,⟨q.ok,by have:=q.next;omega,fun B a o=> ?_⟩⟩
  .have hl:eqNL [4] (lpB X).live=true:=rfl;have V:(lpB X).vals=[.ptr X 0]:=rfl;rw[callBl (m+1) n t];simp(maxSteps:=999999)(disch:=omega) only[r124_0,eZ,pExtract,nth,hl,V,zP,x,I.ld,Y];exact P
  .have L: ¬B=A:=fun e=>o (.inr e)
   rw[q.keep B (by omega) L,j.keep B (by omega) (fun w=>o (.inl w)),f.keep B a L]
def BlkOk (At E0:Nat)(Q:Ptr->Option Nd.Node)(G:AH->Prop)(q:Nat->Prop)(h:Nat):Prop:=
 ∀ {f:Nd.Node} {t:Bt.Tr h} {S:List Ptr} {p:Ptr} {y:AV} {M:Nat} {T:List Int} {P:Nat->AH->Prop} {a s:Nat->Prop} {X1 j o i u:Nat} {rest:List Int} {H:AH} (m n:Nat),Q p=some f->RepN Q h f t S->(∀x∈p::S,x.at_≠0)->(∀x f,Q x=some f->Nd.size f<=500)->Yld y M T P a s->(∀B,q B-> ¬a B)->M+2*h<=m->200000000+h<=m->200000000<=n->G H->P i H->H.h.get X1=some (.cells (ptrV p) u 1 false)->Box H j (.ptr At 0)->Box H o (.ptr E0 0)-> ¬a X1-> ¬a j-> ¬a o->T.drop i=(p::S).map (·.at_)++rest->
  ∃H',f124 (dy (m+1)) n [y, .ptr X1 0, .ptr j 0, .ptr o 0] H=some (.tuple [],H')/\P (i+(S.length+1)) H'/\G H'/\Stp a H H'
theorem blk_kids {At E0:Nat}{Q:Ptr->Option Nd.Node}{G:AH->Prop}{V:Nat->Prop}(r:Rdg At E0 Q G V){h:Nat}(ih:BlkOk At E0 Q G V h){y:AV}{M:Nat}{T:List Int}{P:Nat->AH->Prop}{f Ow:Nat->Prop}(c:Yld y M T P f Ow)(hR: ∀B,V B-> ¬f B){q s X4 m n:Nat}(hm:M+2+2*h<=m)(a8:200000001+h<=m)(hz: ∀x nd,Q x=some nd->Nd.size nd<=500)(w1: ¬f q)(w2: ¬f s)(w3: ¬f X4){kv:AV}{kids:List Ptr}(a2: ∀B,Blk kv B-> ¬f B)(a9:kids.length<=500){rest:List Int} :
  ∀(J:List Ptr) (ts:List (Bt.Tr h)) (S:List Ptr) (pre:List Ptr) (i k:Nat) (H:AH),kids=pre++J->RepL Q (RepN Q h) J ts S->(∀x∈S,x.at_≠0)->J.length<k->G H->P i H->Box H q (.ptr At 0)->Box H s (.ptr E0 0)->Box H X4 y->Grow 3 38 H kv kids.length (kids.flatMap ptrV)->T.drop i=S.map (·.at_)++rest->
   ∃H',loopK k (f124l0 (dy (m+1)) n) [.ptr q 0, .ptr s 0, .ptr X4 0,kv, .int .i64 kids.length, .int .i64 pre.length] H=some (.exit 0 [],H')/\P (i+S.length) H'/\G H'/\Stp f H H'
 | [],ts,S,pre,i,k,H,hkd,hr,h0,hk,g,hp,bt,be,b4,gk,hT=>by
  obtain⟨k,rfl⟩: ∃k',k=k'+1:=⟨k - 1,by omega⟩;have hS:S=[]:=by
   cases ts with
   | nil=>exact hr
   | cons _ _=>exact hr.elim
  subst hS;have hl:kids.length=pre.length:=by rw[hkd];simp
  refine⟨H,loop_exit ?_,hp,g,jV (r.ok g)⟩;rw[hl];simp(maxSteps:=999999)(disch:=omega) only[f124l0,eZ,pExtract,nth,yA]
 | p::J,ts,S,pre,i,k,H,hkd,hr,h0,hk,g,hp,bt,be,b4,gk,hT=>by
  obtain⟨k,rfl⟩: ∃k',k=k'+1:=⟨k - 1,by omega⟩;obtain⟨t,ts,rfl⟩: ∃t b0,ts=t::b0:=by
   cases ts with
   | nil=>exact hr.elim
   | cons t ts=>exact⟨t,ts,rfl⟩
  obtain⟨nd,C,L,q1,r1,r2,rfl⟩:=hr;have o:=r.ok g;have b2:pre.length<kids.length:=by rw[hkd];simp
  have hI:(pre.length:Int)< (kids.length:Int):=by omega
  have hi1:(pre.length:Int)+((1:Nat):Int)=(((pre++[p]).length:Nat):Int):=by rw[zT];simp
  have a6:kids[pre.length]=p:=by subst hkd;simp
  obtain⟨pp,i1,l1⟩:=Ptrs.at (l:=kids) gk.row b2;rw[a6]at l1;have b6:=i1 .i64 _ rfl;obtain⟨H1,A1,b1,p1,g1,m1,n1⟩:=box o (.cells [.int .i64 (0:Nat), .int .i64 (0:Nat), .int .u64 (0:Nat)] 38 1 false);obtain⟨u,e2,g2,s2,n2⟩:=st_all p1.ok g1 (l':=ptrV p) rfl rfl;have b7:stN 3 (.ptr A1 0) (.agg (ptrV p)) H1=some (undefA,u):=e2;have N1:=p1.next;have N2:=s2.next
  have W:Prs H u:=p1.fresh s2 fun B j=>by omega
  have l2:ldN 3 (.ptr A1 0) u=some (.agg (ptrV p)):=ldN_all g2 rfl;have b8:Box u q (.ptr At 0):=bt.mono o W (fun x=>x);have b9:Box u s (.ptr E0 0):=be.mono o W (fun x=>x);obtain⟨H3,B3,b3,Y,g3,m3,n3⟩:=box W.ok (.cells [.ptr At 0] 29 1 false);obtain⟨H4,B4,c0,N,g4,m4,n4⟩:=box Y.ok (.cells (ptrV p) 38 1 false);obtain⟨a,B5,b5,v,g5,m5,n5⟩:=box N.ok (.cells [.ptr E0 0] 181 1 false);have N3:=Y.next;have N4:=N.next;have N5:=v.next
  obtain⟨m,rfl⟩: ∃k,m=k+1:=⟨m - 1,by omega⟩;have a7:(dy (m+1+1)).fn 96 [.ptr At 0, .agg (ptrV p), .ptr E0 0] u=some (.func 124 [] [.ptr B4 0, .ptr B3 0, .ptr B5 0],a):=by
   show f96 (dy (m+1)) (m+1) [.ptr At 0, .agg (ptrV p), .ptr E0 0] u=_;simp(maxSteps:=999999)(disch:=omega) only[f96,eZ,pExtract,nth,cbx,b3,c0,b5]
  have P5:Prs H a:=((W.trans Y).trans N).trans v;have F:Prs a (a.push (.loop (lpB X4))):=(jV v.ok).push _;have g6:(a.push (.loop (lpB X4))).h.get a.next=some (.loop (lpB X4)):=jK _ _
  have a0: ∀K:Nat->AH->Rs,newB a (.loop ⟨.ready,none,124,0,[4],[.ptr X4 0]⟩) K=K a.next (a.push (.loop (lpB X4))):=fun K=>newB_pushS v.ok _ K
  generalize a.push (.loop (lpB X4))=H6 at F g6 a0;have Z:=P5.trans F;have N6:=F.next
  have NP:=P5.next
  have l4:X4<H.next:=by obtain⟨_,g⟩:=b4;exact o.lt g
  have hA: ¬Ow a.next:=fun w=>by have:=c.lt hp _ w;omega
  have cn:=c.nest (A:=a.next) (X:=X4) hA w3 (by omega)
  have wB: ∀B,H.next<=B->B<a.next-> ¬(f B\/B=a.next):=fun B h1 h2 w=>by
   rcases w with w | w
   .have:=c.lt hp _ (c.sub _ w);omega
   .omega
  have c1: ∀B,V B-> ¬(f B\/B=a.next):=fun B j w=>by
   rcases w with w | w
   .exact hR B j w
   .have:=r.lt g B j;omega
  have c2:H6.h.get B4=some (.cells (ptrV p) 38 1 false):=jY (v.trans F) N.ok g4;have c3:Box H6 B3 (.ptr At 0):=⟨_,jY ((N.trans v).trans F) Y.ok g3⟩;have c4:Box H6 B5 (.ptr E0 0):=⟨_,jY F v.ok g5⟩;have a3:T.drop i=(p::C).map (·.at_)++(L.map (·.at_)++rest):=by rw[hT];simp
  obtain⟨I,e7,⟨c5,a4,d5⟩,g7,s7⟩:=ih m (m+1) q1 r1 (fun x O=>h0 x (by
   rcases zM.1 O with rfl | O
   .simp
   .simp[O])) hz cn c1 (by omega) (by omega) (by omega) (r.prs g Z) ⟨c.prs hp Z,g6,b4.mono o Z (fun x=>x)⟩ c2 c3 c4 (wB _ (by omega) (by omega)) (wB _ (by omega) (by omega)) (wB _ (by omega) (by omega)) a3
  have U:Stp (fun B=>B=a.next) I (I.put a.next .dead):=(jV s7.ok).put (s7.ok.lt a4) _ (.inr rfl)
  have a1: ∀K:Option Code->AH->Rs,endLp a.next I K=K none (I.put a.next .dead):=fun K=>by
   simp only[endLp,a4,lpB,putA_ok]
  have c6:rfC [(125,f125 (dy (m+1+1)) n)] (dy (m+1+1)) (.func 124 [] [.ptr B4 0, .ptr B3 0, .ptr B5 0]) a.next H6=some (.tuple [],I):=e7
  generalize I.put a.next .dead=H8 at U a1
  have N7:=s7.next;have N8:=U.next
  have z:Stp f H H8:=⟨U.ok,by omega,fun B j hS=>by
   rw[U.keep B (by omega) (by omega),s7.keep B (by omega) (fun e=>by rcases e with e | e;exact hS e;omega),Z.keep B j (fun x=>x)]⟩
  have c7:P (i+(C.length+1)) H8:=c.frame c5 U fun B j w=>by rw[j]at w;exact hA w
  have g8:G H8:=r.frame g z fun B j _ hf=>hR B hf j
  have c8:Box H8 q (.ptr At 0):=bt.mono o z w1;have a5:Box H8 s (.ptr E0 0):=be.mono o z w2;have c9:Box H8 X4 y:=b4.mono o z w3;have d0:=r.er g8;have d1: ¬(((0:Nat):Int)≠((0:Nat):Int)):=by omega
  have d2:T.drop (i+(C.length+1))=L.map (·.at_)++rest:=by
   rw[<-List.drop_drop,a3,yO (by simp)]
  have d3:f124l0 (dy (m+1+1)) n [.ptr q 0, .ptr s 0, .ptr X4 0,kv, .int .i64 kids.length, .int .i64 pre.length] H=some (.norm [.ptr q 0, .ptr s 0, .ptr X4 0,kv, .int .i64 kids.length, .int .i64 ((pre++[p]).length:Nat)],H8):=by
   simp(maxSteps:=999999)(disch:=omega) only[f124l0,eZ,pExtract,nth,cq,hI,b6,l1,b1,b7,b8.ld,l2,b9.ld,a7,a0,c6,a1,jmpK,a5.ld,d0,d1,hi1]
  obtain⟨H9,e9,d4,g9,s9⟩:=blk_kids r ih c hR hm a8 hz w1 w2 w3 a2 a9 J ts L (pre++[p]) (i+(C.length+1)) k H8 (by rw[hkd];simp) r2 (fun x O=>h0 x (by simp[O])) (by simp at hk;omega) g8 c7 c8 a5 c9 (gk.mono z a2) d2;refine⟨H9,by rw[loop_next d3];exact e9, ?_,g9,z.trans s9⟩;rw[show(p::(C++L)).length=C.length+1+L.length by simp;omega,<-Nat.add_assoc];exact d4
theorem blk_node (r:Rdg H A G a v)(Rf:Yld p t c N F z)(hR: ∀B,v B-> ¬F B){rest:List Int}(m n:Nat)(hq:G w=some e)(h0:w.at_≠0)(hm:t<=m)(hn:200000000<=n)(g:a h)(hp:N U h)(g1:h.h.get C=some (.cells (ptrV w) V 1 false))(bt:Box h J (.ptr H 0))(be:Box h Q (.ptr A 0))(w0: ¬F C)(w1: ¬F J)(w2: ¬F Q)(W:c.drop U=(w::i).map (·.at_)++rest)
  (kl: ∀ {X4:Nat} {kv:AV} {j:AH},a j->N (U+1) j->Box j J (.ptr H 0)->Box j Q (.ptr A 0)->Box j X4 p-> ¬F X4->(∀B,Blk kv B-> ¬F B)->Grow 3 38 j kv e.kids.length (e.kids.flatMap ptrV)-> ∃H',loopK n (f124l0 (dy (m+1)) n) [.ptr J 0, .ptr Q 0, .ptr X4 0,kv, .int .i64 e.kids.length, .int .i64 (0:Nat)] j=some (.exit 0 [],H')/\N (U+1+i.length) H'/\a H'/\Stp F j H'):
  ∃H',f124 (dy (m+1)) n [p, .ptr C 0, .ptr J 0, .ptr Q 0] h=some (.tuple [],H')/\N (U+(i.length+1)) H'/\a H'/\Stp F h H':=by
 have s:=r.ok g;have a4:=cellsA_cell Rf.cell;obtain⟨H1,X4,b1,E0,a5,m1,n1⟩:=box s (.cells [p] 83 1 false);have Z:=jY E0 s g1;have ra:Eng.ld1 (.ptr C 0) H1=some (.int .i64 w.at_):=by rw[ld1_get Z];rfl
 have la:ldN 3 (.ptr C 0) H1=some (.agg (ptrV w)):=ldN_all Z rfl;have a6:=bt.mono s E0 (fun x=>x);obtain⟨At,j,e2,L,nv,fv⟩:=r.load m n hn (r.prs g E0) hq;obtain⟨ks,vs,o,rfl,v1,v2,y⟩:=nv;obtain⟨H3,Y,b3,Ow,g3,m3,n3⟩:=box L.ok (.cells [.bool false, .nS, .nS, .nS] 72 1 false);have a3:allCells [.bool e.leaf,ks,vs,o]=true:=by simp[allCells,v1.isCell,v2.isCell,y.isCell];rfl
 obtain⟨K,e4,g4,u,n4⟩:=st_all Ow.ok g3 (l':=[.bool e.leaf,ks,vs,o]) rfl a3;have a7:stN 4 (.ptr Y 0) (.agg [.bool e.leaf,ks,vs,o]) H3=some (undefA,K):=e4;have N1:=E0.next;have N2:=L.next;have N3:=Ow.next;have N4:=u.next
 have M:Prs h K:=((E0.trans L).trans Ow).fresh u fun B q=>by omega
 have a0:Box K X4 p:=⟨_,by rw[u.keep _ (by omega) (by omega)];exact jY (L.trans Ow) E0.ok a5⟩;have a8:Eng.ld1 (.ptr C 0) K=some (.int .i64 w.at_):=by rw[ld1_get (jY M s g1)];rfl
 have a1:U<c.length:=by
  rcases Nat.lt_or_ge U c.length with X1 | X1
  .exact X1
  .rw[qQ X1]at W;simp at W
 have a9:c[U]=w.at_:=by
  have:=qL a1;rw[W]at this;simp only[y6,qB,yF]at this;exact this.1.symm
 have b0:=Rf.prs hp M;have b9:=r.prs g M;obtain⟨O,e5,b2,P⟩:=Rf.run a1 m n hm b0;rw[a9]at e5;have lH: ∀B,F B->B<h.next:=fun B T=>Rf.lt hp B (Rf.sub B T)
 have f: ∀B,h.next<=B-> ¬F B:=fun B X1 T=>by have:=lH B T;omega
 have b4:O.h.get Y=some (.cells [.bool e.leaf,ks,vs,o] 72 1 false):=(P.keep _ (u.ok.lt g4) (f _ (by omega))).trans g4;have r5:Eng.ld1 (.ptr Y 3) O=some o:=by rw[ld1_get b4];rfl
 have v4:Grow 3 38 K o e.kids.length (e.kids.flatMap ptrV):=(y.mono Ow (fun _ _ x=>x)).mono u fun B q=>by
  have:=Grow.lt y q;omega
 have a2: ∀B,Blk o B-> ¬F B:=fun B q=>f B (by
  have:=fv B (blkN_mk.2 (.inr (.inr q)));omega)
 have b5:lnSl o=some (.int .i64 e.kids.length):=y.row.lnSl;have S:Stp F h O:=⟨P.ok,by have:=P.next;have:=M.next;omega,fun B q hS=>by
  rw[P.keep B (by have:=M.next;omega) hS,M.keep B q (fun x=>x)]⟩
 have b6:a O:=r.frame g S fun B q _ hf=>hR B hf q
 obtain⟨H6,e6,b7,g6,s6⟩:=kl b6 b2 (bt.mono s S w1) (be.mono s S w2) (a0.mono u.ok P (f _ (by omega))) (f _ (by omega)) a2 (v4.mono P a2);have t0: ¬(w.at_=((0:Nat):Int)):=by simpa using h0
 have b8: ¬(((0:Nat):Int)≠((0:Nat):Int)):=by omega
 refine⟨H6, ?_,by rw[show U+(i.length+1)=U+1+i.length by omega];exact b7,g6,S.trans s6⟩;simp(maxSteps:=999999)(disch:=omega) only[f124,eZ,pExtract,nth,a4,b1,ra,t0,a6.ld,la,e2,b3,a7,b8,a0.ld,a8,e5,r5,b5,e6,f124b1]
theorem blk_all (r:Rdg H A G a v)(h:Nat):BlkOk H A G a v h:=by
 induction h with
 | zero=>
  unfold BlkOk;intro E0 t S p y M T P Wy Ow X1 Xt Xe i e1 rest At m n f hr j z c hR hm O C g hp F I be J o q s;obtain⟨U,rfl⟩:=hr;have N:E0.kids=[]:=by rw[U];rfl
  refine blk_node r c hR m n f (j p (by simp)) (by omega) C g hp F I be J o q s fun {X4 kv K} u Q _ _ _ _ _ _=> ?_
  obtain⟨n,rfl⟩: ∃k,n=k+1:=⟨n - 1,by omega⟩;refine⟨K,loop_exit ?_,Q,u,jV (r.ok u)⟩;rw[N];simp(maxSteps:=999999)(disch:=omega) only[f124l0,eZ,pExtract,nth,yI,yA]
 | succ h ih=>
  unfold BlkOk;intro E0 t S p y M T P Wy Ow X1 Xt Xe i e1 rest At m n f hr j z c hR hm O C g hp F I be J o q s;obtain⟨_,_,_,hl⟩:=hr;have V:=(size_few (z p E0 f)).2.2;have W:T.drop (i+1)=S.map (·.at_)++rest:=by
   rw[<-List.drop_drop,s];rfl
  refine blk_node r c hR m n f (j p (by simp)) (by omega) C g hp F I be J o q s fun {X4 kv K} u Q Y Z a0 w4 a1 gk=> ?_
  exact blk_kids r ih c hR (by omega) (by omega) z o q w4 a1 V E0.kids t.2 S [] (i+1) n K rfl hl (fun x hx=>j x (by simp[hx])) (by omega) u Q Y Z a0 gk W
end Go.Eng.Sh
end
section
namespace Go.Bk
def mrkS (is:Nat->Nat)(l:List Nat):Nat->Nat:=fun j=>if j∈l then 1 else is j
theorem mrkS_nil (is:Nat->Nat):mrkS is []=is:=by funext j;simp[mrkS]
theorem mrkS_snoc (is:Nat->Nat)(l:List Nat)(k:Nat):mrkS is (l++[k])=setS (mrkS is l) k 1:=by
 funext j;by_cases e:j=k
 .subst e;simp[mrkS,setS]
 .simp[mrkS,setS,e]
end Go.Bk
namespace Go.Eng.Sh
open Go.Nd (Ptr Str)
open Go.Bk
theorem TI.hold1 (a:TI q h H A p P w l s t g): ∀kv∈l,∀B,blkN kv.2 B->B<h.next:=a.hold
theorem K_small (h:q.K w=some e):Nd.size e<=500:=by
 obtain⟨a,birth,kind,body,rfl,i,j,_,_,hl,hb,_,hd⟩:=jU.1 h;have:=(Nd.encN_decN hd).1;simp only[Nd.may,zE,zU]at this;exact this.2
theorem rdg_ok {E:Ev}{At M Ad E0:Nat}{root:Ptr}{es:List (AV×AV)}{last On Nw:Nat}{dr wv:AV}{ds:Dx} :
  Rdg At E0 (Qf E [] []) (fun H=>TI E H At M (.ptr Ad 0) .nP root es [] last dr/\DkI H Ad E.nb E.ws On Nw wv ds/\Box H E0 (.int .i64 (0:Nat))) (fun B=>(B=At\/B=M\/Blk dr B\/ ∃kv∈es,blkN kv.2 B)\/(B=Ad\/B=On\/B=Nw\/Blk wv B)\/B=E0) where
 ok:=fun h=>h.1.ok
 lt:=fun {H} h B j=>by
  obtain⟨f,i,o⟩:=h;have a:=f.ok;rcases j with(rfl | rfl | e | ⟨kv,q,e⟩) | (rfl | rfl | rfl | e) | rfl
  .exact a.lt f.gT
  .exact a.lt f.gM
  .exact Grow.lt f.dg e
  .exact f.hold1 kv q B e
  .exact a.lt i.gD
  .exact a.lt i.gO
  .exact a.lt i.gN
  .exact a.lt (i.ow.get e)
  .obtain⟨_,g⟩:=o;exact a.lt g
 frame:=fun {H H' S} h s v=>by
  obtain⟨f,i,o⟩:=h;have a:=f.ok;have n: ∀ {B},B<H.next->((B=At\/B=M\/Blk dr B\/ ∃kv∈es,blkN kv.2 B)\/(B=Ad\/B=On\/B=Nw\/Blk wv B)\/B=E0)-> ¬S B:=fun hl hr x=>v _ x hl hr
  have t:=i.stp a s (n (a.lt i.gD) (.inr (.inl (.inl rfl)))) (n (a.lt i.gO) (.inr (.inl (.inr (.inl rfl))))) (n (a.lt i.gN) (.inr (.inl (.inr (.inr (.inl rfl)))))) (fun B j=>n (a.lt (i.ow.get j)) (.inr (.inl (.inr (.inr (.inr j))))));refine⟨TI.wr f s (fun B j=>n ?_ (.inl j)) t,t, ?_⟩
  .rcases j with rfl | rfl | e | ⟨kv,q,e⟩
   .exact a.lt f.gT
   .exact a.lt f.gM
   .exact Grow.lt f.dg e
   .exact f.hold1 kv q B e
  .exact o.mono a s (n (by obtain⟨_,g⟩:=o;exact a.lt g) (.inr (.inr rfl)))
 er:=fun h=>h.2.2.ld
 load:=fun {H p y} m n z h u=>by
  have C:E.K p=some y:=by
   rcases Qf_inv u with⟨s,_,h | h⟩ | h
   .simp[lookN]at h
   .simp[lookN]at h
   .exact h.2
  exact load_ok m n z h.1 u (K_small C)
theorem smark_ok(m:h.ok)(a:Spc h H A t k)(F:2<=C)(o:C<A)(f:k C=0):
  ∃H',f97 D n [.ptr H 0, .int .i64 C] h=some (.int .i64 (0:Nat),H')/\Spc H' H A t (setS k C 1)/\Stp (fun B=>B=H) h H'/\H'.next=h.next:=by
 obtain⟨p,q,As,s,nb⟩:=sput_ok D n a m o f (b:=1) (by omega) (by omega);obtain⟨c,g,hl,u,c1,v,G,q1,q2,q3⟩:=id a;have x:Eng.ld1 (.ptr H 0) h=some (.int .i64 A):=ld1_ptr g u;have y:ixArr 8192 1 (.ptr H 2) (.int .i64 C)=some (.ptr H (2+C)):=ixArr_int 8192 H 2 .i64 C rfl (by omega);have z:Eng.ld1 (.ptr H (2+C)) h=some (.int .u8 (0:Nat)):=ld1_ptr g (by rw[v C (by omega),f]);have t1: ¬(C:Int)< ((2:Nat):Int):=by omega
 have t2: ¬(A:Int)<=(C:Int):=by omega
 have la:f85 D n [.ptr H 0, .int .i64 C] h=some (.int .i64 (0:Nat),h):=by
  simp(maxSteps:=999999)(disch:=omega) only[f85,eZ,pExtract,nth,cq,t1,x,t2]
 have i: ¬(((0:Nat):Int)≠((0:Nat):Int)):=by omega
 refine⟨p, ?_,As,s,nb⟩;simp(maxSteps:=999999)(disch:=omega) only[f97,eZ,pExtract,nth,la,i,y,z,q]
def stC (Ad:Nat)(At:AV)(x:Str)(As:AV)(g:Nat)(p:Ptr)(Lv:Nat):List AV:=[.ptr Ad 0, .nP,At,S x,As, .int .i64 g, .int .i64 p.at_, .int .i64 p.birth, .int .u64 p.sum, .map Lv]
def lpM (X1 X2:Nat):ALoop:=⟨.ready,none,63,0,[1,2],[.ptr X1 0, .ptr X2 0]⟩
theorem callMk (m k:Nat)(f:h.h.get H=some (.loop (lpM A t)))(a:List AV):callV [(125,f125 (dy (m+1)) k)] (dy (m+1)) (.yT H) a h=r63_0 (dy m) m H (lpM A t) a h:=by
 show rdOfT (tabR (dy m) m) H a h=_;simp only[rdOfT,f];rfl
def MkP (A X1 X2 St As Lv Ad nb la:Nat)(At:AV)(x:Str)(g:Nat)(p:Ptr)(is:Nat->Nat)(TN:List Nat)(i:Nat)(H:AH):Prop:=
 H.ok/\H.h.get A=some (.loop (lpM X1 X2))/\Box H X1 (.ptr St 0)/\H.h.get St=some (.cells (stC Ad At x (.ptr As 0) g p Lv) 69 1 false)/\Spc H As nb la (mrkS is (TN.take i))/\ ∃es,H.h.get Lv=some (.map [6] es)
theorem mkp_ok {A X1 X2 St As Lv Ad nb la:Nat}{At:AV}{x:Str}{g:Nat}{p:Ptr}{is:Nat->Nat}{TN:List Nat}(hT:TN.Nodup)(hb: ∀k∈TN,2<=k/\k<nb/\is k=0):
  Yld (.yT A) 0 (TN.map fun k=>((k:Nat):Int)) (MkP A X1 X2 St As Lv Ad nb la At x g p is TN) (fun B=>B=A\/B=As\/B=Lv) (fun B=>B=A\/B=As\/B=Lv\/B=X1\/B=St) where
 cell:=rfl
 sub:=fun B h=>by rcases h with h | h | h;exact .inl h;exact .inr (.inl h);exact .inr (.inr (.inl h))
 ok:=fun h=>h.1
 lt:=fun {i H} h B L=>by
  obtain⟨a,t,b1,f,z,es,o⟩:=h;rcases L with rfl | rfl | rfl | rfl | rfl
  .exact a.lt t
  .exact z.lt a
  .exact a.lt o
  .obtain⟨_,g⟩:=b1;exact a.lt g
  .exact a.lt f
 frame:=fun {i H H' S} h s v=>by
  obtain⟨a,t,b1,f,z,es,o⟩:=h;exact⟨s.ok,by rw[s.keep _ (a.lt t) fun w=>v _ w (.inl rfl)];exact t,b1.mono a s fun w=>v _ w (.inr (.inr (.inr (.inl rfl)))),by rw[s.keep _ (a.lt f) fun w=>v _ w (.inr (.inr (.inr (.inr rfl))))];exact f,z.stp a s fun w=>v _ w (.inr (.inl rfl)),es,by rw[s.keep _ (a.lt o) fun w=>v _ w (.inr (.inr (.inl rfl)))];exact o⟩
 run:=fun {i H} hi m n _ h=>by
  obtain⟨a,t,b1,f,z,es,o⟩:=h;have Q:i<TN.length:=by simpa using hi
  have a5:(TN.map fun k=>((k:Nat):Int))[i]=((TN[i]:Nat):Int):=by simp
  obtain⟨q1,q2,q3⟩:=hb _ (yH Q);have a1:TN[i]∉TN.take i:=fun hm=>by
   obtain⟨j,hj,e⟩:=List.mem_take_iff_getElem.1 hm;have:=(List.getElem_inj hT).1 e;omega
  have hz:mrkS is (TN.take i) TN[i]=0:=by rw[mrkS,if_neg a1,q3]
  have I:As≠A:=fun e=>by obtain⟨_,g,_⟩:=z;rw[e,t]at g;cases g
  have M:Lv≠A:=fun e=>by rw[e,t]at o;cases o
  have n1:X1≠A:=fun e=>by obtain⟨_,g⟩:=b1;rw[e,t]at g;cases g
  have T:St≠A:=fun e=>by rw[e,t]at f;cases f
  have U:Lv≠As:=fun e=>by obtain⟨_,g,_⟩:=z;rw[<-e,o]at g;cases g
  have a6:X1≠As:=fun e=>z.nbox b1 e
  have a7:X1≠Lv:=fun e=>by obtain⟨_,g⟩:=b1;rw[e,o]at g;cases g
  have a2:St≠Lv:=fun e=>by rw[e,o]at f;cases f
  have a3:St≠As:=fun e=>by obtain⟨c,g,hl,_⟩:=z;rw[<-e,f]at g;simp at g
  have q:Stp (fun B=>B=A) H (H.put A (.loop { lpM X1 X2 with state:= .busy})):=(jV a).put (a.lt t) _ (.inr rfl);have F:(H.put A (.loop { lpM X1 X2 with state:= .busy})).h.get A=some (.loop { lpM X1 X2 with state:= .busy}):=by rw[jO,if_pos rfl]
  have O: ∀K:AH->Rs,beginK A H K=K (H.put A (.loop { lpM X1 X2 with state:= .busy})):=fun K=>by
   simp only[beginK,t,lpM,putA_ok]
  generalize H.put A (.loop { lpM X1 X2 with state:= .busy})=H1 at q F O;have V:Box H1 X1 (.ptr St 0):=b1.mono a q n1;have J:H1.h.get St=_:=(q.keep _ (a.lt f) T).trans f;have W:H1.h.get Lv=_:=(q.keep _ (a.lt o) M).trans o;have r4:Eng.ld1 (.ptr St 4) H1=some (.ptr As 0):=by rw[ld1_get J];rfl
  obtain⟨N,e2,a8,u,_⟩:=smark_ok (dy m) m q.ok (z.stp a q I) q1 q2 hz;have Y:N.h.get St=_:=(u.keep _ (q.ok.lt J) a3).trans J;have r9:Eng.ld1 (.ptr St 9) N=some (.map Lv):=by rw[ld1_get Y];rfl
  have a9:N.h.get Lv=_:=(u.keep _ (q.ok.lt W) U).trans W;obtain⟨G,b0,e3,g3,_,y,_⟩:=up_int u.ok a9 rfl (m:=((TN[i]:Nat):Int)) (keyI _) (.agg []);have Z:G.h.get A=some (.loop { lpM X1 X2 with state:= .busy}):=by
   rw[y.keep _ (u.ok.lt (by rw[u.keep _ (q.ok.lt F) (fun e=>I e.symm)];exact F)) (fun e=>M e.symm),u.keep _ (q.ok.lt F) (fun e=>I e.symm)];exact F
  have C:Stp (fun B=>B=A) G (G.put A (.loop (lpM X1 X2))):=(jV y.ok).put (y.ok.lt Z) _ (.inr rfl);have a4:endR A none G=some (.bool true,G.put A (.loop (lpM X1 X2))):=by
   simp only[endR,Z,putA_ok,lpM]
  have a0:=V.mono q.ok u a6;have b2:=a0.mono u.ok y a7;have N1:=q.next;have N2:=u.next;have N3:=y.next
  refine⟨_, ?_,⟨C.ok,by rw[jO,if_pos rfl],b2.mono y.ok C n1, ?_, ?_,b0, ?_⟩,⟨C.ok,by have:=C.next;omega,fun B L v=> ?_⟩⟩
  .have hl:eqNL [1,2] (lpM X1 X2).live=true:=rfl;have b3:(lpM X1 X2).vals=[.ptr X1 0, .ptr X2 0]:=rfl;have b4: ¬(((0:Nat):Int)≠((0:Nat):Int)):=by omega
   have b5:bldS [] [] []=some (.agg []):=rfl;rw[callMk m n t,a5];simp(maxSteps:=999999)(disch:=omega) only[r63_0,eZ,pExtract,nth,cq,hl,b3,zP,O,V.ld,r4,e2,b4,a0.ld,r9,b5,e3];exact a4
  .rw[C.keep _ (by have:=a.lt f;omega) T,y.keep _ (by have:=a.lt f;omega) a2];exact Y
  .rw[qH Q,mrkS_snoc];exact(a8.stp u.ok y (fun e=>U e.symm)).stp y.ok C I
  .rw[C.keep _ (by have:=a.lt o;omega) M];exact g3
  .rw[C.keep B (by omega) (fun e=>v (.inl e)),y.keep B (by omega) (fun e=>v (.inr (.inr e))),u.keep B (by omega) (fun e=>v (.inr (.inl e))),q.keep B L (fun e=>v (.inl e))]
open Go.Nd (Kvs mayP encP ptrOf)
open Go.Bt
theorem KB_hd {α:Type}{W:Bd->Bd->α->Prop} : ∀ {ks:List Str} {ts:List α} {lo hi:Bd},KB W lo ks ts hi-> ∃t0 a f i,ts=t0::a/\W f i t0
 | [],[t],lo,hi,h=>⟨t,[],lo,hi,rfl,h⟩
 | k::ks,t::ts,lo,hi,h=>⟨t,ts,lo,some k,rfl,h.1⟩
 | [],[],_,_,h=>h.elim
 | [],_::_::_,_,_,h=>h.elim
 | _::_,[],_,_,h=>h.elim
theorem rep_high {Q:Ptr->Option Nd.Node} : ∀(h:Nat) {a:Nd.Node} {t:Bt.Tr h} {S:List Ptr},RepN Q h a t S->(WR h t\/ ∃lo hi,WF h lo hi t)->h<=S.length
 | 0,_,_,_,_,_=>Nat.zero_le _
 | h+1,a,t,S,hr,hw=>by
  obtain⟨_,_,_,hl⟩:=hr;have f: ∃lo hi,KB (WF h) lo t.1 t.2 hi:=by
   rcases hw with w | ⟨lo,hi,w⟩
   .exact⟨_,_,w.1.2.2⟩
   .exact⟨_,_,w.1.2.2⟩
  obtain⟨lo,hi,f⟩:=f;obtain⟨t0,u,j,m,o,q⟩:=KB_hd f;rw[o]at hl
  cases i:a.kids with
  | nil=>rw[i]at hl;exact hl.elim
  | cons p ps=>
   rw[i]at hl;obtain⟨v,x,y,_,s,_,rfl⟩:=hl;have:=rep_high h s (.inr ⟨j,m,q⟩);simp only[zV,zT];omega
def Rfs (At M:Nat)(dr:AV)(Ad On Nw:Nat)(wv:AV)(B:Nat):Prop:=(B=At\/B=M\/Blk dr B)\/(B=Ad\/B=On\/B=Nw\/Blk wv B)
theorem mark_ok (m n:Nat)(hm:400000000<=m){g:Nat}{x:Str}
  (G:TI q h H A (.ptr t 0) .nP w [] [] Q p) (I:DkI h t q.nb q.ws C J P L) (hr:RootIs q [] w E R)
  (gS:h.h.get U=some (.cells (stC t (.ptr H 0) x (.ptr V 0) g w f) 69 1 false)) (sp:Spc h V q.nb j k) (Y: ∃es,h.h.get f=some (.map [6] es))
  (hT:(R.map fun r=>r.at_.toNat).Nodup) (hb: ∀r∈R,2<=r.at_/\r.at_.toNat<q.nb/\k r.at_.toNat=0) (hl:R.length<=8192)
  (hR: ∀B,Rfs H A p t C J P B->B≠V/\B≠f):
  ∃H',f63 (dy (m+2)) n [.ptr U 0] h=some (.int .i64 (0:Nat),H')/\Spc H' V q.nb j (mrkS k (R.map fun r=>r.at_.toNat))/\(∃es,H'.h.get f=some (.map [6] es))/\Stp (fun B=>B=V\/B=f) h H':=by
 have la:=G.ok;obtain⟨H1,X1,b1,Z,g1,m1,n1⟩:=box la (.cells [.ptr U 0] 25 1 false);obtain⟨H2,X2,b2,N,g2,m2,n2⟩:=box Z.ok (.cells [.int .i64 (0:Nat)] 28 1 false);obtain⟨H3,E0,b3,O,g3,m3,n3⟩:=box N.ok (.cells [.int .i64 (0:Nat)] 28 1 false);obtain⟨z,e4,g4,Nw,n4⟩:=st_fld O.ok g3 (o:=0) (x:= .int .i64 (0:Nat)) rfl (by simp);have c2:z.h.get E0=some (.cells [.int .i64 (0:Nat)] 28 1 false):=g4;have N1:=Z.next;have N2:=N.next;have N3:=O.next
 have P4:Prs h z:=((Z.trans N).trans O).fresh Nw fun B St=>by omega
 have a4:Box z X1 (.ptr U 0):=⟨_,by rw[Nw.keep _ (by omega) (by omega)];exact jY (N.trans O) Z.ok g1⟩;have a5:=jY P4 la gS;have r2:Eng.ld1 (.ptr U 2) z=some (.ptr H 0):=by rw[ld1_get a5];rfl
 have r6:ldN 3 (.ptr U 6) z=some (.agg (ptrV w)):=by rw[ldN_ptr a5 (by simp[stC])];rfl
 obtain⟨H5,B3,b5,p5,g5,m5,n5⟩:=box Nw.ok (.cells [.ptr H 0] 29 1 false);obtain⟨H6,As,b6,Lv,g6,m6,n6⟩:=box p5.ok (.cells (ptrV w) 38 1 false);obtain⟨At,B5,b7,F,g7,m7,n7⟩:=box Lv.ok (.cells [.ptr E0 0] 181 1 false);have N4:=Nw.next;have N5:=p5.next;have N6:=Lv.next;have N7:=F.next
 have c3:f96 (dy (m+2)) n [.ptr H 0, .agg (ptrV w), .ptr E0 0] z=some (.func 124 [] [.ptr As 0, .ptr B3 0, .ptr B5 0],At):=by
  simp(maxSteps:=999999)(disch:=omega) only[f96,eZ,pExtract,nth,cbx,b5,b6,b7]
 have last:Prs At (At.push (.loop (lpM X1 X2))):=(jV F.ok).push _;have g8:(At.push (.loop (lpM X1 X2))).h.get At.next=some (.loop (lpM X1 X2)):=jK _ _
 have a0: ∀K:Nat->AH->Rs,newB At (.loop ⟨.ready,none,63,0,[1,2],[.ptr X1 0, .ptr X2 0]⟩) K=K At.next (At.push (.loop (lpM X1 X2))):=fun K=>newB_pushS F.ok _ K
 generalize At.push (.loop (lpM X1 X2))=H8 at last g8 a0;generalize hA:At.next=Ad at g8 a0
 have W:Prs z H8:=((p5.trans Lv).trans F).trans last;have root:Prs h H8:=P4.trans W;have N8:=last.next;have NP:=root.next
 have d9:=la.lt gS;have e0:=sp.lt la;obtain⟨c4,Y⟩:=Y;have e1:=la.lt Y;have b8: ∃a,f124 (dy (m+1)) (m+1) [.yT Ad, .ptr As 0, .ptr B3 0, .ptr B5 0] H8=some (.tuple [],a)/\MkP Ad X1 X2 U V f t q.nb j (.ptr H 0) x g w k (R.map fun r=>r.at_.toNat) R.length a/\Box a E0 (.int .i64 (0:Nat))/\Stp (fun B=>B=Ad\/B=V\/B=f) H8 a:=by
  have a6:H8.h.get As=some (.cells (ptrV w) 38 1 false):=jY (F.trans last) Lv.ok g6;have c5:Box H8 B3 (.ptr H 0):=⟨_,jY ((Lv.trans F).trans last) p5.ok g5⟩;have c6:Box H8 B5 (.ptr E0 0):=⟨_,jY last F.ok g7⟩;have a1:Box H8 E0 (.int .i64 (0:Nat)):=⟨_,jY W Nw.ok c2⟩;have a7:MkP Ad X1 X2 U V f t q.nb j (.ptr H 0) x g w k (R.map fun r=>r.at_.toNat) 0 H8:=⟨root.ok,g8,a4.mono Nw.ok W (fun x=>x),jY root la gS,by rw[List.take_zero,mrkS_nil];exact sp.stp la root (fun x=>x),c4,jY root la Y⟩;rcases hr with⟨rfl,_,rfl⟩ | ⟨M,nd,On,S,hq,rep,wr,_,_,rfl⟩
  .obtain⟨a,X4,b9,p9,g9,m9,n9⟩:=box root.ok (.cells [.yT Ad] 83 1 false);have c:=mkp_ok (A:=Ad) (X1:=X1) (X2:=X2) (St:=U) (As:=V) (Lv:=f) (Ad:=t) (la:=j) (At:= .ptr H 0) (x:=x) (g:=g) (p:=pZ) (nb:=q.nb) (is:=k) (TN:=[]) List.nodup_nil (fun kv a2=>(List.not_mem_nil a2).elim);have ra:Eng.ld1 (.ptr As 0) a=some (.int .i64 (0:Nat)):=by rw[ld1_get (jY p9 root.ok a6)];rfl
   refine⟨a, ?_,c.prs a7 p9,a1.mono root.ok p9 (fun x=>x),p9.mono fun _ _ M=>M.elim⟩;simp(maxSteps:=999999)(disch:=omega) only[f124,eZ,pExtract,nth,show cellsA (.yT Ad)=[.yT Ad]from rfl,b9,ra]
  .have hz: ∀y nd,Qf q [] [] y=some nd->Nd.size nd<=500:=fun y nd hq=>by
    rcases Qf_inv hq with⟨s,_,M | M⟩ | M
    .simp[lookN]at M
    .simp[lookN]at M
    .exact K_small M.2
   have e2:=rep_high M rep (.inl wr);simp only[zV]at hl;have c:=mkp_ok (A:=Ad) (X1:=X1) (X2:=X2) (St:=U) (As:=V) (Lv:=f) (Ad:=t) (la:=j) (At:= .ptr H 0) (x:=x) (g:=g) (p:=w) (nb:=q.nb) (is:=k) hT (fun kv a2=>by
    obtain⟨r,hr,rfl⟩:=qM.1 a2;have:=hb r hr;exact⟨by omega,this.2.1,this.2.2⟩)
   have rr:=rdg_ok (E:=q) (At:=H) (M:=A) (Ad:=t) (E0:=E0) (root:=w) (es:=[]) (last:=Q) (On:=C) (Nw:=J) (dr:=p) (wv:=P) (ds:=L);have c7:((w::S).map fun r=>r.at_.toNat).map (fun kv=>((kv:Nat):Int))=(w::S).map (·.at_):=by
    rw[List.map_map];refine List.map_congr_left fun r hr=> ?_
    have:=(hb r hr).1;simp only[Function.comp];omega
   rw[c7]at c;have wn: ∀B,z.next<=B->B<At.next-> ¬(B=Ad\/B=V\/B=f):=fun B h1 h2 e=>by omega
   obtain⟨a,e9,a8,g9,u⟩:=blk_all rr M (rest:=[]) (i:=0) m (m+1) hq rep (fun r hr=>by have:=(hb r hr).1;omega) hz c (fun B St=>by
    have lt:=rr.lt (H:=H8) ⟨G.prs root,I.prs la root,a1⟩ B St;have l0:Rfs H A p t C J P B->B<h.next:=fun M=>by
     rcases M with(rfl | rfl | e) | (rfl | rfl | rfl | e)
     .exact la.lt G.gT
     .exact la.lt G.gM
     .exact Grow.lt G.dg e
     .exact la.lt I.gD
     .exact la.lt I.gO
     .exact la.lt I.gN
     .exact la.lt (I.ow.get e)
    have key:Rfs H A p t C J P B-> ¬(B=Ad\/B=V\/B=f):=fun M e=>by
     have:=hR B M;have:=l0 M;rcases e with e | e | e
     .omega
     .exact(hR B M).1 e
     .exact(hR B M).2 e
    rcases St with(e | e | e | ⟨E,hkv,_⟩) | e | e
    .exact key (.inl (.inl e))
    .exact key (.inl (.inr (.inl e)))
    .exact key (.inl (.inr (.inr e)))
    .exact(List.not_mem_nil hkv).elim
    .exact key (.inr e)
    .intro dr;omega) (by omega) (by omega) (by omega) ⟨G.prs root,I.prs la root,a1⟩ a7 a6 c5 c6 (wn _ (by omega) (by omega)) (wn _ (by omega) (by omega)) (wn _ (by omega) (by omega)) (by simp)
   refine⟨a,e9, ?_,g9.2.2,u⟩;rw[yU]at a8;exact a8
 obtain⟨a,e9,⟨e3,a9,e5,e6,b0,c8,c9⟩,d0,u⟩:=b8;have v:Stp (fun B=>B=Ad) a (a.put Ad .dead):=(jV u.ok).put (u.ok.lt a9) _ (.inr rfl);have a3: ∀K:Option Code->AH->Rs,endLp Ad a K=K none (a.put Ad .dead):=fun K=>by
  simp only[endLp,a9,lpM,putA_ok]
 have d1:rfC [(96,f96 (dy (m+2)) n),(97,f97 (dy (m+2)) n)] (dy (m+2)) (.func 124 [] [.ptr As 0, .ptr B3 0, .ptr B5 0]) Ad H8=some (.tuple [],a):=e9;generalize a.put Ad .dead=H10 at v a3;have c0:Box H10 E0 (.int .i64 (0:Nat)):=d0.mono u.ok v (by omega);have d2:H8.h.get X2=some (.cells [.int .i64 (0:Nat)] 28 1 false):=jY W Nw.ok (by rw[Nw.keep _ (by omega) (by omega)];exact jY O N.ok g2);have d3:a.h.get X2=_:=(u.keep _ (by omega) (by omega)).trans d2;have c1:H10.h.get X2=_:=(v.keep _ (by have:=u.next;omega) (by omega)).trans d3
 obtain⟨b4,d4,d5,ds,e7⟩:=st_fld v.ok c1 (o:=0) (x:= .int .i64 (0:Nat)) rfl (by simp);have d6:Eng.ld1 (.ptr X2 0) b4=some (.int .i64 (0:Nat)):=by rw[ld1_get d5];rfl
 have d7:V≠Ad:=by omega
 have d8:f≠Ad:=by omega
 have N9:=u.next;have e8:=v.next;have f1:=ds.next
 refine⟨b4, ?_, ?_,⟨c8, ?_⟩,⟨ds.ok,by omega,fun B St hS=> ?_⟩⟩
 .simp(maxSteps:=999999)(disch:=omega) only[f63,eZ,pExtract,nth,cbx,b1,b2,b3,e4,a4.ld,r2,r6,c3,a0,d1,a3,jmpK,c0.ld,d4,d6]
 .have:(R.map fun r=>r.at_.toNat).take R.length=R.map fun r=>r.at_.toNat:=zW (by simp)
  rw[this]at b0;exact(b0.stp u.ok v d7).stp v.ok ds (by omega)
 .rw[ds.keep _ (by omega) (by omega),v.keep _ (by omega) d8];exact c9
 .rw[ds.keep B (by omega) (by omega),v.keep B (by omega) (by omega),u.keep B (by omega) (fun e=>by rcases e with e | e | e;omega;exact hS (.inl e);exact hS (.inr e)),root.keep B St (fun x=>x)]
theorem write0_ok{txg:Nat}(Ad:TreeX (.ptr C 0) .nP q h H A t v w [] E i)(c0:w.at_≠1)(sp:Spc h J U Q k)(h1:1<=txg)(h2:txg<=2147483647):
  ∃H' At W' dr,f37 D n [.ptr H 0, .ptr J 0, .int .i64 txg] h=some (.tuple [.agg (ptrV w),dr, .int .i64 (0:Nat)],H')/\TreeX (.ptr C 0) .nP { q with dl:=[] } H' H At t W' w [] E i/\Stp (fun B=>B=H) h H'/\(∀B,W' B->v B\/h.next<=B)/\Rw 3 H' dr q.dl.length (q.dl.flatMap ptrV):=by
 obtain⟨dr,es,last,hc,f,e4,e8,c1,f1,hr,hW⟩:=Ad;have z:=f.ok;have he:es=[]:=by
  have:=f.pq.len;exact zR (by simpa using this)
 subst he;obtain⟨H1,As,b1,kv,g1,m1,n1⟩:=box z (.cells [.int .i64 (0:Nat), .int .i64 (0:Nat), .int .u64 (0:Nat)] 38 1 false);have N1:=kv.next
 have a0:=f.prs kv;have c2:=none_ok D n a0;have c3:=sp.stp z kv (fun x=>x);have a9:=sfree_ok D n c3;have c4:Eng.ld1 (.ptr H 5) H1=some (.map A):=by rw[ld1_get a0.gT];rfl
 have c5:lnMap (.map A) H1=some (.int .i64 (0:Nat)):=by
  simp only[lnMap,a0.gM,fN_eq];rfl
 have t1: ¬(txg:Int)< ((1:Nat):Int):=by omega
 have t2: ¬((2147483647:Nat):Int)< (txg:Int):=by omega
 have ck: ∀K:Rs,chk (some (.map A)) (.map A) K=K:=fun K=>chk_ok rfl (by simp[aveq])
 have z6:ldN 3 (.ptr As 0) H1=some (.agg [.int .i64 (0:Nat), .int .i64 (0:Nat), .int .u64 (0:Nat)]):=ldN_all g1 rfl;have tl: ¬((cnt k 0 U:Nat):Int)< ((0:Nat):Int):=by omega
 obtain⟨H2,Aw,b2,p2,g2,m2,n2⟩:=box kv.ok (.cells [.ptr H 0, .ptr J 0, .int .i64 txg, .int .i64 (0:Nat), .nS, .nS] 141 1 false);have N2:=p2.next
 have P2:=kv.trans p2;have c6:=f.prs P2;have c7:bldS [(0,1),(1,1),(2,1),(3,1),(4,1),(5,1)] [.nP, .nP, .int .i64 (0:Nat), .int .i64 (0:Nat), .nS, .nS] [(0, .ptr H 0),(1, .ptr J 0),(2, .int .i64 txg),(3, .int .i64 (0:Nat))]=some (.agg [.ptr H 0, .ptr J 0, .int .i64 txg, .int .i64 (0:Nat), .nS, .nS]):=rfl;have rT:ldN 3 (.ptr H 2) H2=some (.agg (ptrV w)):=ldN_ptr c6.gT (by simp[treeC]);have node: ∃V,f79 D n [.ptr Aw 0, .agg (ptrV w)] H2=some (.tuple [.agg (ptrV w), .int .i64 (0:Nat)],V)/\Prs H2 V:=by
  obtain⟨V,A3,b3,j,g3,m3,n3⟩:=box P2.ok (.cells (ptrV w) 38 1 false);obtain⟨F,A4,b4,m,g4,m4,n4⟩:=box j.ok (.cells [.int .i64 (0:Nat), .int .i64 (0:Nat), .int .u64 (0:Nat)] 38 1 false);obtain⟨a,e5,Y,G,n5⟩:=st_all m.ok g4 (l':=ptrV w) rfl rfl;have a1:stN 3 (.ptr A4 0) (.agg (ptrV w)) F=some (undefA,a):=e5;have N3:=j.next
  have a6:=jY m j.ok g3;have r1:Eng.ld1 (.ptr A3 0) F=some (.int .i64 w.at_):=by rw[ld1_get a6];rfl
  have r2:ldN 3 (.ptr A3 0) F=some (.agg (ptrV w)):=ldN_all a6 rfl;have r3:ldN 3 (.ptr A4 0) a=some (.agg (ptrV w)):=ldN_all Y rfl;have c8:(w.at_≠((1:Nat):Int))=True:=eq_true (by simpa using c0);refine⟨a, ?_,(j.trans m).fresh G fun B T=>by omega⟩;simp(maxSteps:=999999)(disch:=omega) only[f79,eZ,pExtract,nth,b3,b4,r1,c8,r2,a1,r3]
 obtain⟨V,e3,j⟩:=node;have N3:=j.next
 obtain⟨F,a2,b4,m,g4,m4,n4⟩:=box j.ok (.cells [.int .i64 (0:Nat), .int .i64 (0:Nat), .int .u64 (0:Nat)] 38 1 false);obtain⟨a,e5,Y,G,n5⟩:=st_all m.ok g4 (l':=ptrV w) rfl rfl;have a1:stN 3 (.ptr a2 0) (.agg (ptrV w)) F=some (undefA,a):=e5;have N4:=m.next
 have I:Prs h a:=(P2.trans j).trans (m.fresh G fun B T=>by omega);have a3:=f.prs I;have c9:ldN 3 (.ptr a2 0) a=some (.agg (ptrV w)):=ldN_all Y rfl;have W:=a3.gT;have x1:Eng.ld1 (.ptr H 1) a=some .nP:=by rw[ld1_get W];rfl
 have x7:Eng.ld1 (.ptr H 7) a=some dr:=by rw[ld1_get W];rfl
 have lT:=z.lt f.gT;have e6:=stN_ok (o:=2) (n:=3) (x:= .agg (ptrV w)) W (by decide) rfl rfl (by simp[treeC]);have g6:(a.put H (.cells (treeC (.ptr C 0) .nP w A last dr) 82 1 false)).h.get H=some (.cells (treeC (.ptr C 0) .nP w A last dr) 82 1 false):=by rw[jO,if_pos rfl]
 have a7:stN 3 (.ptr H 2) (.agg (ptrV w)) a=some (undefA,a.put H (.cells (treeC (.ptr C 0) .nP w A last dr) 82 1 false)):=e6;have y:Stp (fun B=>B=H) a (a.put H (.cells (treeC (.ptr C 0) .nP w A last dr) 82 1 false)):=(jV a3.ok).put (a3.ok.lt W) _ (.inr rfl);generalize a.put H (.cells (treeC (.ptr C 0) .nP w A last dr) 82 1 false)=H6 at a7 g6 y;obtain⟨H7,e7,g7,la,n7⟩:=st_fld y.ok g6 (o:=7) (x:= .nS) rfl (by simp[treeC]);have d0:H7.h.get H=some (.cells (treeC (.ptr C 0) .nP w A last .nS) 82 1 false):=g7;obtain⟨H8,At,b8,N,g8,m8,n8⟩:=box la.ok (.map [10] []);have d1:=jY N la.ok d0;obtain⟨Z,e9,g9,O,n9⟩:=st_fld N.ok d1 (o:=5) (x:= .map At) rfl (by simp[treeC]);have d2:Z.h.get H=some (.cells (treeC (.ptr C 0) .nP w At last .nS) 82 1 false):=g9;have N5:=G.next;have N6:=y.next;have N7:=la.next;have N8:=N.next;have N9:=O.next
 have a8: ∀ {L:Nat} {o:AObj},a.h.get L=some o->L≠H->L<a.next->Z.h.get L=some o:=fun {L o} g a4 hl=>by
  rw[O.keep L (by omega) a4,N.keep L (by omega) (fun x=>x),la.keep L (by omega) a4,y.keep L hl a4];exact g
 have d3:a.h.get As=some (.cells [.int .i64 (0:Nat), .int .i64 (0:Nat), .int .u64 (0:Nat)] 38 1 false):=by
  rw[G.keep As (by omega) (by omega)];exact jY ((p2.trans j).trans m) kv.ok g1
 have d4:=a8 d3 (by omega) (by omega);have b0:=a8 Y (by omega) (by omega);have b5:ldN 3 (.ptr a2 0) Z=some (.agg (ptrV w)):=ldN_all b0 rfl;obtain⟨p,d5,d6,u,f2⟩:=st_all O.ok d4 (l':=ptrV w) rfl rfl;have b6:stN 3 (.ptr As 0) (.agg (ptrV w)) Z=some (undefA,p):=d5;have r6:ldN 3 (.ptr As 0) p=some (.agg (ptrV w)):=ldN_all d6 rfl;have f3:=u.next
 have d7: ¬(((0:Nat):Int)≠((0:Nat):Int)):=by omega
 have d8:mkM [10]=some (.map [10] [],fun L=> .map L):=rfl;have S:Stp (fun B=>B=H) h p:=⟨u.ok,by have:=I.next;omega,fun B T hS=>by
  have:=I.next
  rw[u.keep B (by omega) (by omega),O.keep B (by omega) hS,N.keep B (by omega) (fun x=>x),la.keep B (by omega) hS,y.keep B (by omega) hS,I.keep B T (fun x=>x)]⟩
 have lM:=z.lt f.gM;obtain⟨a5,On,Nw,wv,ds,d9,nb⟩:=f.dk;have e0:a5=C:=by simpa using d9.symm
 subst e0;have nD:a5≠H:=fun e=>by have:=nb.gD;rw[e,f.gT]at this;simp at this
 have nO:On≠H:=fun e=>by have:=nb.gO;rw[e,f.gT]at this;simp at this
 have nN:Nw≠H:=fun e=>by have:=nb.gN;rw[e,f.gT]at this;simp at this
 have e1:=nb.stp z S nD nO nN (fun B T e=>by have:=nb.ow.get T;rw[e,f.gT]at this;simp at this);have e2:Grow 3 38 p dr q.dl.length (q.dl.flatMap ptrV):=f.dg.mono S fun B T e=>by
  obtain⟨l,e',g,hg⟩:=Grow.get2 f.dg T;rw[e,f.gT]at hg;simp at hg
 have b7:p.h.get H=_:=(u.keep _ (by omega) (by omega)).trans d2;have b9:p.h.get At=some (.map [10] []):=by
  rw[u.keep _ (by omega) (by omega),O.keep _ (by omega) (by omega)];exact g8
 refine⟨p,At,fun B=>B=H\/B=At\/Blk .nS B,dr, ?_,⟨.nS,[],last,rfl,⟨u.ok,b7,b9,trivial,⟨a5,On,Nw,wv,ds,rfl,e1⟩, .inl rfl, .inl (kB ..),by simp,by simp,fun B T=>qF (f.xl B T) S.next⟩,fun s nd M=>by simp[lookN]at M,⟨by simp,by simp⟩,c1,by simp,hr,fun B=>Iff.rfl⟩,S,fun B T=> ?_,e2.row⟩
 .simp(maxSteps:=999999)(disch:=omega) only[f37,eZ,pExtract,nth,b1,c2,cq,t1,t2,c4,a9,ck,c5,tl,c7,b2,rT,e3,b4,a1,d7,x1,f37j4,x7,c9,a7,e7,d8,b8,e9,b5,b6,r6]
 .rcases T with rfl | rfl | e
  .exact .inl ((hW _).2 (.inl rfl))
  .have:=I.next;exact .inr (by omega)
  .exact(jZ.1 e).elim
theorem dblocks_ok(d:DkI h H A B t C p L):f41 D n [.ptr H 0] h=some (.int .i64 A,h):=by
 have f:Eng.ld1 (.ptr H 0) h=some (.int .i64 A):=by rw[ld1_get d.gD];rfl
 simp(maxSteps:=999999)(disch:=omega) only[f41,eZ,cq,f]
theorem topen_ok (m n:Nat)(hm:400000000<=m)(hn:1000<=n){E:Ev}(hx: ∀B,¬E.x B)(f:h.ok){g:Nat}(i:DkI h H E.nb E.ws A t p L)(c1:64<=E.nb)(c2:E.nb<=8192){root:Ptr}{x:Str}{kv:Kvs}{T:List Ptr}(hN:NewB E.ws g (encP root++x))(hr:RootIs { E with dl:=[] } [] root kv T)(hT:(T.map fun r=>r.at_.toNat).Nodup)(hb: ∀r∈T,2<=r.at_/\r.at_.toNat<E.nb)(hl:T.length<=8192):
  ∃H' St At M W As Lv,f28 (dy (m+2)) n [.ptr H 0, .int .i64 (0:Nat)] h=some (.tuple [.ptr St 0, .int .i64 (0:Nat)],H')/\Prs h H'/\TreeX (.ptr H 0) .nP { E with dl:=[] } H' At M 0 W root [] kv T/\Spc H' As E.nb 0 (mrkS newS (T.map fun r=>r.at_.toNat))/\H'.h.get St=some (.cells (stC H (.ptr At 0) x (.ptr As 0) g root Lv) 69 1 false)/\(∃es,H'.h.get Lv=some (.map [6] es))/\(∀B,(W B\/B=As\/B=St\/B=Lv)->h.next<=B)/\ ¬W As/\ ¬W St/\ ¬W Lv:=by
 obtain⟨r1,r2,r3⟩:=hr.rootOk;have N:(encP root).length=16:=Nd.encP_length root;obtain⟨H1,e1,p1⟩:=newest_ok (dy (m+2)) n hn f i (by omega) hN;obtain⟨H2,G,b2,p2,g2,m2,n2⟩:=box p1.ok (.cells [.int .i64 (0:Nat), .str 0 0] 107 1 false);obtain⟨I,e3,g3,s3,n3⟩:=st_all p2.ok g2 (l':=[.int .i64 g,S (encP root++x)]) rfl rfl;have c3:stN 2 (.ptr G 0) (.agg [.int .i64 g,S (encP root++x)]) H2=some (undefA,I):=e3;have N1:=p1.next;have N2:=p2.next;have N3:=s3.next
 have J:Prs h I:=(p1.trans p2).fresh s3 fun B a=>by omega
 have q0:Eng.ld1 (.ptr G 0) I=some (.int .i64 g):=by rw[ld1_get g3];rfl
 have q1:Eng.ld1 (.ptr G 1) I=some (S (encP root++x)):=by rw[ld1_get g3];rfl
 have Z:(encP root++x).length=16+x.length:=by rw[zT,N]
 have t16: ¬(((encP root++x).length:Nat):Int)< ((16:Nat):Int):=by rw[Z];omega
 have c4:slStr (S (encP root++x)) none (some (.int .i64 (16:Nat)))=some (S (encP root)):=by
  rw[slStr_hi _ _ (by omega) (by rw[Z];omega)];exact congrArg (fun z=>some (S z)) (yX N)
 have c5:slStr (S (encP root++x)) (some (.int .i64 (16:Nat))) none=some (S x):=by
  rw[slStr_lo _ _ (by omega) (by rw[Z];omega)];exact congrArg (fun z=>some (S z)) (yO N)
 obtain⟨H4,e4,p4⟩:=decPtr_ok (dy (m+2)) n J.ok (s:=encP root) N (by omega);rw[Nd.ptrOf_encP r1 r2,if_pos r1,if_pos r1]at e4;obtain⟨H5,U,b5,p5,g5,m5,n5⟩:=box p4.ok (.cells [.int .i64 (0:Nat), .int .i64 (0:Nat), .int .u64 (0:Nat)] 38 1 false);obtain⟨u,e6,g6,V,n6⟩:=st_all p5.ok g5 (l':=ptrV root) rfl rfl;have c6:stN 3 (.ptr U 0) (.agg (ptrV root)) H5=some (undefA,u):=e6;have N4:=p4.next;have N5:=p5.next;have N6:=V.next
 have P6:Prs I u:=(p4.trans p5).fresh V fun B a=>by omega
 have a6:=jY P6 J.ok g3;have c7:Eng.ld1 (.ptr G 0) u=some (.int .i64 g):=by rw[ld1_get a6];rfl
 have c8:Eng.ld1 (.ptr G 1) u=some (S (encP root++x)):=by rw[ld1_get a6];rfl
 have q8:Eng.ld1 (.ptr U 0) u=some (.int .i64 root.at_):=by rw[ld1_get g6];rfl
 have l8:ldN 3 (.ptr U 0) u=some (.agg (ptrV root)):=ldN_all g6 rfl;obtain⟨H7,Lv,b7,K,g7,m7,n7⟩:=box V.ok (.map [6] []);have f4:stC H .nP x .nP g root Lv=[.ptr H 0, .nP, .nP,S x, .nP, .int .i64 g, .int .i64 root.at_, .int .i64 root.birth, .int .u64 root.sum, .map Lv]:=rfl;obtain⟨H8,St,b8,Y,g8,m8,n8⟩:=box K.ok (.cells (stC H .nP x .nP g root Lv) 69 1 false);have N7:=K.next;have N8:=Y.next
 have wv:Prs h H8:=((J.trans P6).trans K).trans Y;have bs:bldS [(0,1),(1,1),(2,1),(3,1),(4,1),(5,1),(6,3),(9,1)] [.nP, .nP, .nP, .str 0 0, .nP, .int .i64 (0:Nat), .int .i64 (0:Nat), .int .i64 (0:Nat), .int .u64 (0:Nat), .nM] [(0, .ptr H 0),(3,S x),(5, .int .i64 g),(6, .agg (ptrV root)),(7, .map Lv)]=some (.agg (stC H .nP x .nP g root Lv)):=rfl;have eb:=dblocks_ok (dy (m+2)) n (i.prs f wv);obtain⟨H9,As,e9,Nw,f5,a7⟩:=snew_ok (dy (m+2)) n (by omega) wv.ok c1 c2;have c9:=jY Nw wv.ok g8;have N9:=Nw.next
 obtain⟨y,d0,d1,C,f6⟩:=st_fld Nw.ok c9 (o:=4) (x:= .ptr As 0) rfl (by simp[stC]);have a2:y.h.get St=some (.cells (stC H .nP x (.ptr As 0) g root Lv) 69 1 false):=d1;have f7:=C.next
 have q:Prs h y:=(wv.trans Nw).fresh C fun B a=>by omega
 have d2:Eng.ld1 (.ptr St 1) y=some .nP:=by rw[ld1_get a2];rfl
 have d3:ldN 3 (.ptr U 0) y=some (.agg (ptrV root)):=ldN_all (by
  rw[C.keep _ (by omega) (by omega)];exact jY ((K.trans Y).trans Nw) V.ok g6) rfl
 have b0:=a7.stp Nw.ok C (by omega);obtain⟨f8,At,M,W,d4,j,tx,On⟩:=openR_ok (dy (m+2)) n (by omega) q.ok (E:=E) ⟨A,t,p,L,i.prs f q⟩ hr (fun B a=>(hx B a).elim);have d5:=jY j q.ok a2;have f9:=j.next
 obtain⟨dr,es,last,hc,ti,d6,d7,d8,d9,e0,v⟩:=id tx;have he:es=[]:=by
  have:=ti.pq.len;exact zR (by simpa using this)
 subst he;have g0:=On At ((v _).2 (.inl rfl));have wM:=On M ((v _).2 (.inr (.inl rfl)));obtain⟨O,e2,e5,F,g1⟩:=st_fld j.ok d5 (o:=2) (x:= .ptr At 0) rfl (by simp[stC]);have a3:O.h.get St=some (.cells (stC H (.ptr At 0) x (.ptr As 0) g root Lv) 69 1 false):=e5;have g4:=F.next
 have a8:Prs h O:=(q.trans j).fresh F fun B a=>by omega
 have f2:=i.prs f (q.trans j);have a4:=i.prs f a8;have a5:TI { E with dl:=[] } O At M (.ptr H 0) .nP root [] [] last dr:=TI.wr ti F (fun B a e=>by
  rcases a with Ad | Ad | Ad | ⟨kv,a0,_⟩
  .omega
  .omega
  .have:=On B ((v B).2 (.inr (.inr Ad)));omega
  .exact List.not_mem_nil a0) a4
 have b1:O.h.get Lv=some (.map [6] []):=by
  rw[F.keep _ (by omega) (by omega),j.keep _ (by omega) (fun x=>x),C.keep _ (by omega) (by omega)];exact jY (Y.trans Nw) K.ok g7
 have b3:=(b0.stp q.ok j (fun x=>x)).stp j.ok F (by omega);have f3:=a7.lt Nw.ok;obtain⟨a1,e7,b4,b6,Q⟩:=mark_ok m n hm a5 a4 hr a3 b3 ⟨[],b1⟩ hT (fun r hr=>by
  have Ad:=hb r hr;refine⟨Ad.1,Ad.2, ?_⟩;simp only[newS];rw[if_neg (by omega)]) hl (fun B a=>by
   rcases a with(Ad | Ad | Ad) | Ad
   .omega
   .omega
   .have:=On B ((v B).2 (.inr (.inr Ad)));omega
   .have:B<h.next:=by
     rcases Ad with rfl | rfl | rfl | Ad
     .exact f.lt i.gD
     .exact f.lt i.gO
     .exact f.lt i.gN
     .exact f.lt (i.ow.get Ad)
    omega)
 have g9:=Q.next
 have a9:Prs h a1:=a8.fresh Q fun B a=>by omega
 have b9:=i.prs f a9;have c0:TI { E with dl:=[] } a1 At M (.ptr H 0) .nP root [] [] last dr:=TI.wr a5 Q (fun B a e=>by
  rcases a with Ad | Ad | Ad | ⟨kv,a0,_⟩
  .omega
  .omega
  .have:=On B ((v B).2 (.inr (.inr Ad)));omega
  .exact List.not_mem_nil a0) b9
 have nW: ∀B,B<y.next-> ¬W B:=fun B Ad w=>by have:=On B w;omega
 refine⟨a1,St,At,M,W,As,Lv, ?_,a9,⟨dr,[],last,hc,c0,d6,d7,d8,d9,e0,v⟩,b4, ?_,b6,fun B a=> ?_,nW _ (by omega),nW _ (by omega),nW _ (by omega)⟩
 .have t0: ¬((0:Nat):Int)< ((0:Nat):Int):=by omega
  have t1: ¬((1024:Nat):Int)< ((0:Nat):Int):=by omega
  have e8: ¬(((0:Nat):Int)≠((0:Nat):Int)):=by omega
  have f1: ¬root.at_=((1:Nat):Int):=by omega
  simp(maxSteps:=999999)(disch:=omega) only[f28,eZ,pExtract,nth,cq,t0,t1,e1,b2,c3,e8,q1,lnStr_S,t16,c4,e4,b5,c6,q8,f1,c7,c8,c5,l8,mkM,b7,bs,b8,f28j0,eb,e9,d0,d2,d3,d4,e2,e7]
 .rw[Q.keep _ (by omega) (by omega)];exact a3
 .rcases a with Ad | Ad | Ad | Ad
  .have:=On B Ad;have:=q.next;omega
  .have:=wv.next;omega
  .have:=J.next;omega
  .have:=J.next;omega
theorem copyP_ok(At:TreeX p P q h H A t v w s E i)(Q:q.dl.length<=1000000000):
  ∃H' S,f35 D n [.ptr H 0] h=some (.ptr S 0,H')/\Prs h H':=by
 obtain⟨dr,es,last,hc,f,h2,h3,h4,h5,h6,hW⟩:=At;have hk:=f.ok;obtain⟨Ad,m,hd⟩:=f.hd;subst hd;have r8:ldN 8 (.ptr H 0) h=some (.agg (treeC (.ptr Ad m) P w A last dr)):=by rw[ldN_get f.gT];rfl
 have U:=(Grow.row f.dg).isCell;have V:allCells (treeC (.ptr Ad m) P w A last dr)=true:=by simp only[allCells,treeC,U,hc,Bool.true_and,Bool.and_true];rfl
 obtain⟨H1,G,b1,d,g1,m1,n1⟩:=box hk (.cells [.nP, .nP, .int .i64 (0:Nat), .int .i64 (0:Nat), .int .u64 (0:Nat), .nM, .int .u64 (0:Nat), .nS] 82 1 false);obtain⟨a,e2,g2,c,n2⟩:=st_all d.ok g1 (l':=treeC (.ptr Ad m) P w A last dr) rfl V;have Y:stN 8 (.ptr G 0) (.agg (treeC (.ptr Ad m) P w A last dr)) H1=some (undefA,a):=e2;have I:Prs h a:=d.fresh c fun B J=>by omega
 have N1:=d.next;have N2:=c.next
 have C:=f.prs I;have j:Prs a (a.push (.map [10] es)):=(jV c.ok).push _;have K:=jK a (.map [10] es);have n3:=jL a (.map [10] es);have u:m77 D n [.map A] a=some (.map a.next,a.push (.map [10] es)):=by
  obtain⟨At,ht⟩:=qI.1 (Eng.T.set_some 40 a.h a.next (.map [10] es))
  simp only[m77,clnK,C.gM,c.ok a.next (zK _),ht,fN_eq,AH.push,yB]
 generalize a.push (.map [10] es)=H3 at j K n3 u;obtain⟨L,Z⟩: ∃L,L=a.next:=⟨_,rfl⟩
 rw[<-Z]at K u;have N3:=j.next
 have a0:=jY j c.ok g2;obtain⟨N,e4,g4,y,n4⟩:=st_fld j.ok a0 (o:=5) (x:= .map L) rfl (by simp[treeC]);have N4:=y.next
 have z:Prs h N:=(I.trans j).fresh y fun B J=>by omega
 have F:=f.prs z;obtain⟨a1,H5,e5,M,a2,f5⟩:=clonePg D n z.ok F.dg Q;have N5:=M.next
 have a3:=jY M y.ok g4;have O:=(Grow.row a2).isCell;obtain⟨H6,e6,g6,s6,n6⟩:=st_fld M.ok a3 (o:=7) (x:=a1) O (by simp[treeC]);refine⟨H6,G, ?_,(z.trans M).fresh s6 fun B J=>by omega⟩;have l5:ld1 (.ptr H 5) a=some (.map A):=by rw[ld1_get C.gT];rfl
 have l7:ld1 (.ptr H 7) N=some dr:=by rw[ld1_get F.gT];rfl
 simp(maxSteps:=999999)(disch:=omega) only[f35,eZ,cq,r8,b1,Y,l5,u,e4,l7,e5,e6]
theorem Spc.cells {H:AH}{A:Nat}(hl:I.length=8198)(j:I[0]? =some (.int .i64 t))(c1:I[1]? =some (.int .i64 C))(m: ∀i,i<8192->I[2+i]? =some (.int .u8 (k i:Nat)))(o: ∀nb,nb<4->I[8194+nb]? =some (.int .i64 (cnt k nb t:Nat))):allCells I=true:=by
 rw[allCells_mem];intro x p;obtain⟨i,hi,rfl⟩:=jH p;have a:I[i]? =some I[i]:=zO hi;rcases Nat.lt_or_ge i 2 with h | h
 .rcases Nat.lt_or_ge i 1 with f | f
  .have:i=0:=by omega
   subst this;rw[j]at a;rw[<-y0 a];rfl
  .have:i=1:=by omega
   subst this;rw[c1]at a;rw[<-y0 a];rfl
 .rcases Nat.lt_or_ge i 8194 with f | f
  .have:=m (i - 2) (by omega);rw[show 2+(i - 2)=i by omega,a]at this;rw[y0 this];rfl
  .have:=o (i - 8194) (by omega);rw[show 8194+(i - 8194)=i by omega,a]at this;rw[y0 this];rfl
theorem scopy_ok(s:h.ok)(la:Spc h H A t k):
  ∃H' a,f36 D n [.ptr H 0] h=some (.ptr a 0,H')/\Prs h H'/\h.next<=a/\Spc H' a A t k:=by
 obtain⟨c,g,hl,As,c1,i,j,q1,q2,q3⟩:=la;obtain⟨r,hr⟩: ∃r,r=rep 8192 [AV.int .u8 (0:Nat)]:=⟨_,rfl⟩;have p:r.length=8192:=by rw[hr,rep_one];exact List.length_replicate
 have q:=Spc.cells (H:=h) (A:=H) hl As c1 i j;have u:ldN 8198 (.ptr H 0) h=some (.agg c):=ldN_all g hl;obtain⟨F,a,b1,m,v,x,G⟩:=box s (.cells ([.int .i64 (0:Nat), .int .i64 (0:Nat)]++r++[.int .i64 (0:Nat), .int .i64 (0:Nat), .int .i64 (0:Nat), .int .i64 (0:Nat)]) 137 1 false);have f:([AV.int .i64 (0:Nat), .int .i64 (0:Nat)]++r++[AV.int .i64 (0:Nat), .int .i64 (0:Nat), .int .i64 (0:Nat), .int .i64 (0:Nat)]).length=8198:=by simp[p]
 obtain⟨y,o,z,C,I⟩:=st_all m.ok v (l':=c) (by rw[hl,f]) q;rw[f]at o;refine⟨y,a, ?_,m.fresh C fun B J=>by omega,x,c,z,hl,As,c1,i,j,q1,q2,q3⟩;simp(maxSteps:=999999)(disch:=omega) only[f36,eZ,cq,u,<-hr,b1,o]
theorem staken_ok{j:Nat}(o:Spc h H A t k)(s:j<A):
  ∃b,f42 D n [.ptr H 0, .int .i64 j] h=some (.bool b,h):=by
 obtain⟨c,g,hl,p,c1,q,nb,q1,q2,q3⟩:=o;have a:Eng.ld1 (.ptr H 0) h=some (.int .i64 A):=ld1_ptr g p;have f:ixArr 8192 1 (.ptr H 2) (.int .i64 j)=some (.ptr H (2+j)):=ixArr_int 8192 H 2 .i64 j rfl (by omega);have As:Eng.ld1 (.ptr H (2+j)) h=some (.int .u8 (k j:Nat)):=ld1_ptr g (q j (by omega));have t1:((0:Nat):Int)<=(j:Int):=by omega
 have t2:(j:Int)< (A:Int):=by omega
 by_cases u:k j=1
 .refine⟨true, ?_⟩;have i:((k j:Nat):Int)=((1:Nat):Int):=by omega
  simp(maxSteps:=999999)(disch:=omega) only[f42,eZ,cq,t1,a,t2,f,As,i]
 .have i: ¬((k j:Nat):Int)=((1:Nat):Int):=by omega
  by_cases v:k j=2
  .refine⟨true, ?_⟩;have m:((k j:Nat):Int)=((2:Nat):Int):=by omega
   have t21: ¬((2:Nat):Int)=((1:Nat):Int):=by omega
   simp(maxSteps:=999999)(disch:=omega) only[f42,eZ,cq,t1,a,t2,f,As,m,t21]
  .refine⟨false, ?_⟩;have m: ¬((k j:Nat):Int)=((2:Nat):Int):=by omega
   simp(maxSteps:=999999)(disch:=omega) only[f42,eZ,cq,t1,a,t2,f,As,i,m]
theorem DkI.nst (d:DkI h H A B t C p L)(a:h.h.get J=some (.cells I 69 1 false)):J≠H/\J≠t/\J≠C/\ ¬Blk p J:=by
 refine⟨fun e=> ?_,fun e=> ?_,fun e=> ?_,fun e=> ?_⟩
 .have:=d.gD;rw[<-e,a]at this;simp at this
 .have:=d.gO;rw[<-e,a]at this;cases this
 .have:=d.gN;rw[<-e,a]at this;cases this
 .have:=d.ow.get e;rw[a]at this;simp at this
theorem turn_ok(u:2000000<=n)(a:h.ok)(d:DkI h H A B t C p L)(F:2<=A)(M:B.length<1000000){g:Nat}{As:AV}{x:Str}(v:h.h.get J=some (.cells (stC H P x As g r Q) 69 1 false))(N:g+1<=2147483647)(hp:mayP w=true)(O:Nd.sumOk w)(es:x.length<=476):
  ∃H' G,f38 D n [.ptr J 0, .agg (ptrV w)] h=some (.int .i64 (0:Nat),H')/\DkI H' H A (B++[((g+1) % 2,ringB (g+1) (encP w++x))]) t C .nS ⟨[],G,B++[((g+1) % 2,ringB (g+1) (encP w++x))],[]⟩/\Stp (fun Ad=>Ad=H\/Ad=t\/Ad=C) h H':=by
 obtain⟨k1,k2,k3,k4⟩:=d.nst v;obtain⟨T,y,b1,f,U,m1,n1⟩:=box a (.cells (ptrV w) 38 1 false);have s:=jY f a v;have V:=d.prs a f;have W:Eng.ld1 (.ptr J 0) T=some (.ptr H 0):=by rw[ld1_get s];rfl
 obtain⟨i,a1,Y,Z,j⟩:=flush_ok D n u f.ok V;have N1:=f.next;have N2:=j.next
 have lD:=a.lt d.gD;have lO:=a.lt d.gO;have lN:=a.lt d.gN;have m:i.h.get J=_:=(j.keep _ (f.ok.lt s) (fun e=>by rcases e with e | e | e;exact k1 e;exact k2 e;exact k3 e)).trans s;have b0:Eng.ld1 (.ptr J 0) i=some (.ptr H 0):=by rw[ld1_get m];rfl
 have b5:Eng.ld1 (.ptr J 5) i=some (.int .i64 g):=by rw[ld1_get m];rfl
 have b3:Eng.ld1 (.ptr J 3) i=some (S x):=by rw[ld1_get m];rfl
 have I:i.h.get y=_:=(j.keep _ (by omega) (fun e=>by rcases e with e | e | e<;>omega)).trans U;have lX:ldN 3 (.ptr y 0) i=some (.agg (ptrV w)):=ldN_all I rfl;have wv:(g:Int)+((1:Nat):Int)=((g+1:Nat):Int):=by omega
 obtain⟨z,a2,a3,e3,d3,On,f3⟩:=tput_ok D n (by omega) j.ok Z F M (g:=g+1) (by omega) N hp O es;have K:z.h.get J=_:=(On.keep _ (j.ok.lt m) (fun e=>by rcases e with e | e | e;exact k1 e;exact k3 e;exact(jZ.1 e).elim)).trans m;have c0:Eng.ld1 (.ptr J 0) z=some (.ptr H 0):=by rw[ld1_get K];rfl
 obtain⟨H4,o,e4,d4,nb⟩:=flush_ok D n u On.ok d3;have N3:=On.next;have N4:=nb.next
 have Nw: ¬(((0:Nat):Int)≠((0:Nat):Int)):=by omega
 refine⟨H4,o, ?_,d4,⟨nb.ok,by omega,fun Ad hB q=> ?_⟩⟩
 .simp(maxSteps:=999999)(disch:=omega) only[f38,eZ,b1,W,Y,Nw,b0,b5,wv,lX,b3,e3,c0,e4]
 .rw[nb.keep Ad (by omega) q,On.keep Ad (by omega) (fun e=>by rcases e with e | e | e;exact q (.inl e);exact q (.inr (.inr e));exact(jZ.1 e).elim),j.keep Ad (by omega) q,f.keep Ad hB (fun x=>x)]
theorem live_loop{x:Str}{x6 x7:AV}(N:H≠C)(O:J≠C)(As:Q≠C):
  ∀d i At (St:AH),i+d=U->d<At->St.ok->St.h.get H=some (.cells (stC A p x (.ptr J 0) t w C) 69 1 false)->Spc St J U V k->Spc St Q U f M->(∃es,St.h.get C=some (.map [6] es))->
   ∃H',loopK At (f10l1 D n) [.ptr H 0, .ptr Q 0,x6,x7, .int .i64 U, .int .i64 i] St=some (.exit 0 [.ptr H 0,x6,x7],H')/\(∃es,H'.h.get C=some (.map [6] es))/\Stp (fun B=>B=C) St H':=by
 intro d
 induction d with
 | zero=>
  intro i At St hi G a q u v la';obtain⟨At,rfl⟩: ∃k',At=k'+1:=⟨At - 1,by omega⟩;have Ad: ¬(i:Int)< (U:Int):=by omega
  exact⟨St,loop_exit (by simp(maxSteps:=999999)(disch:=omega) only[f10l1,eZ,Ad]),la',jV a⟩
 | succ d ih=>
  intro i At St hi G a q u v la';obtain⟨At,rfl⟩: ∃k',At=k'+1:=⟨At - 1,by omega⟩;have Ad:(i:Int)< (U:Int):=by omega
  obtain⟨_,_,_,_,_,_,_,Z,_⟩:=id u;have hi1:(i:Int)+((1:Nat):Int)=((i+1:Nat):Int):=by omega
  have y:Eng.ld1 (.ptr H 4) St=some (.ptr J 0):=by rw[ld1_get q];rfl
  have S:Eng.ld1 (.ptr H 9) St=some (.map C):=by rw[ld1_get q];rfl
  obtain⟨b1,z⟩:=staken_ok D n u (j:=i) (by omega);obtain⟨b2,g⟩:=staken_ok D n v (j:=i) (by omega);have I:bldS [] [] []=some (.agg []):=rfl;have step: ∃o,f10l1 D n [.ptr H 0, .ptr Q 0,x6,x7, .int .i64 U, .int .i64 i] St=some (.norm [.ptr H 0, .ptr Q 0,x6,x7, .int .i64 U, .int .i64 (i+1:Nat)],o)/\(∃es,o.h.get C=some (.map [6] es))/\Stp (fun B=>B=C) St o:=by
   cases b1 with
   | false=>
    refine⟨St, ?_,la',jV a⟩;simp(maxSteps:=999999)(disch:=omega) only[f10l1,eZ,Ad,y,z,f10j0,hi1]
   | true=>
    cases b2 with
    | true=>
     refine⟨St, ?_,la',jV a⟩;simp(maxSteps:=999999)(disch:=omega) only[f10l1,eZ,Ad,y,z,g,f10j0,hi1]
    | false=>
     obtain⟨es,la'⟩:=la';obtain⟨o,Lv,T,nb,_,la,_⟩:=up_int a la' rfl (m:=(i:Int)) (keyI _) (.agg []);refine⟨o, ?_,⟨Lv,nb⟩,la⟩;simp(maxSteps:=999999)(disch:=omega) only[f10l1,eZ,Ad,y,z,g,S,I,T,f10j0,hi1]
  obtain⟨o,e,K,s⟩:=step;obtain⟨W,L,srt,Y⟩:=ih (i+1) At o (by omega) (by omega) s.ok (by rw[s.keep _ (a.lt q) N];exact q) (u.stp a s O) (v.stp a s As) K;exact⟨W,by rw[loop_next e];exact L,srt,s.trans Y⟩
end Go.Eng.Sh
end



