/- A checked evaluator for the program, and what it tells, part 6: no condition. -/
import Derived.Test.YtaaflpnhdkoaeaaGreatO5
set_option linter.all false
set_option linter.unusedVariables false
set_option linter.unusedSimpArgs false
set_option maxHeartbeats 8000000
set_option maxRecDepth 20000
variable (D:Go.Eng.Dyn)(n:Nat){H s:List (Go.Eng.AV×Go.Eng.AV)}{h v l B J L P R a c:Nat}{k F:Go.Eng.AH}{i M W g:List Go.Nd.Ptr}{A f:Nat->Nat}{w:Nat->Prop}{p:Go.Nd.Node}{t G Q Y:Go.Eng.AV}{q N:Go.Eng.Sh.PN}{e:List Go.Eng.AV}{C:Go.Nd.Ptr}{I:Go.Nd.Kvs}{U:List Go.Nd.Node}{V:Go.Bk.Ws}{j m:Go.Bt.Bd}{r:Go.Nd.Ptr->Option Go.Nd.Node}{u:Bool}{z:Go.IntKind}
section
namespace Go.Eng.Sh
open Go.Nd (Ptr sumL dP)
open Go.Bt
variable {E:Ev}{X:Nat->Prop}
theorem Y8 (s:pp h=pp v):h=v:=by simp only[pp,Ptr.mk.injEq]at s;omega
theorem zIM (s:Nat):Nd.kidOk (pp s)=true:=by simp[Nd.kidOk,pp]
theorem QO: ∀ {j:List Nd.Node} {f i:Nat} {m:Nd.Node},j[i]? =some m->jZ (f+1+i) (vC f j)=some m
 | [],_,_,_,h=>by simp at h
 | a::j,f,0,m,h=>by simp at h;subst h;simp[vC,jZ]
 | a::j,f,i+1,m,h=>by
  simp only[yW]at h;rw[vC,jZ,if_neg (by omega),show f+1+(i+1)=f+1+1+i from by omega];exact QO h
theorem WE: ∀ {i:List Nd.Node} {f s:Nat} {j:Nd.Node},jZ s (vC f i)=some j->f<s/\s<=f+i.length
 | [],_,_,_,h=>by simp[vC,jZ]at h
 | a::i,f,s,j,h=>by
  rw[vC,jZ]at h;split at h
  .simp only[zY];omega
  .have:=WE h;simp only[zY];omega
theorem BG {new:PN}(o: ∀s p,jZ s q=some p->s<=h)(t: ∀s p,jZ s new=some p->h<s)(f:Qf E q N C=some p):Qf E q (N++new) C=some p:=by
 obtain⟨s,rfl,i | ⟨i,j⟩⟩ | ⟨i,j⟩:=vT f
 .rw[BF,v8,i]
 .rw[BF,v8,i];simp only
  cases u:jZ s new with
  | none=>exact j
  | some n2=>have:=o _ _ j;have:=t _ _ u;omega
 .rw[Y5 i];exact j
theorem gG (h:E.K C=some p):Nd.kidOk C=true/\2<=C.at_:=by
 obtain⟨a,birth,kind,body,rfl,i,j,⟨m,_⟩,o,_⟩:=zOI.1 h;simp only[Nd.kidOk,zF,zQ];simp only[bN];omega
theorem zDK (h:Qf E q N C=some p):Nd.kidOk C=true:=by
 obtain⟨s,rfl,_⟩ | ⟨_,i⟩:=vT h
 .exact zIM s
 .exact(gG i).1
theorem zOw (h:Qf E q N C=some p):1<=C.at_:=by
 have:=zDK h;simp only[Nd.kidOk,zF,zQ]at this;omega
theorem vG.kidOk {α:Type}{q f:PN}{R:Nd.Node->α->List Ptr->Prop}(hr: ∀j t S,R j t S-> ∀p∈S,Nd.kidOk p=true): ∀ {m:List Ptr} {ts:List α} {S:List Ptr},vG (Qf E q f) R m ts S-> ∀p∈S,Nd.kidOk p=true
 | [],[],_,h=>by subst h;simp
 | p::m,t::ts,_,⟨j,S1,S2,a,b,c,e⟩=>fun x i=>by
  subst e;rcases zO.1 i with rfl | i
  .exact zDK a
  .rcases qB.1 i with i | i
   .exact hr _ _ _ b x i
   .exact vG.kidOk hr c x i
 | [],_::_,_,h=>h.elim
 | _::_,[],_,h=>h.elim
theorem wL.kidOk {q f:PN} : ∀ {h:Nat} {a:Nd.Node} {t:Bt.Tr h} {S:List Ptr},wL (Qf E q f) h a t S-> ∀p∈S,Nd.kidOk p=true
 | 0,_,_,_,w=>by obtain⟨_,rfl⟩:=w;simp
 | h+1,_,_,_,w=>vG.kidOk (fun _ _ _ hr=>wL.kidOk hr) w.2.2.2
theorem zAg(hn:200000000<=n){i m h:Nat}{lk:List AV}{O:Nd.Node}{K:Bt.Tr (h+1)}{x:Bt.Tr h}{Sx:List Ptr}{hi:Bd}
  (ch:Ch X k F v l B H N t M R a) (g5:F.h.get J=some (.cells e 119 1 false)) (g7:F.h.get L=some (.cells lk 119 1 false)) (g8:F.h.get P=some (.cells [.bool false, .nS, .nS, .nS] 119 1 false))
  (b2:k.next<=J) (b3:k.next<=L) (b4:k.next<=P) (b5:J≠P) (b6:J≠l) (b7:P≠l)
  (hv:xU X F t (.agg e) p) (b8:xU X F t (.agg lk) O) (hq: ∀s p,jZ s q=some p->s<=R)
  (n1:p.leaf=false) (Q:p.keys=K.1) (n3:p.vals=[]) (n4:p.kids.length=K.2.length) (wi:Inn (WF h) j hi K) (b9:K.1≠[]) (hz:wX K.1 K.2.length<=500) (a6:i+m<K.2.length)
  (ra:vG (Qf E q N) (wL (Qf E q N) h) (p.kids.take i) (K.2.take i) W) (rb:vG (Qf E q N) (wL (Qf E q N) h) (p.kids.drop (i+m+1)) (K.2.drop (i+m+1)) g)
  (T:wL (Qf E q N) h O x Sx) (wx:WX h (WK j K.1 i) (Q9 K.1 hi (i+m)) x) (fx:Full h x) (c0:0<h->O.keys≠[]) (hb:a<=800000000):
  ∃u H' a9 f' V I At G,zAQ D n [.ptr l 0, .ptr J 0, .ptr L 0, .ptr P 0, .int .i64 (i:Nat), .int .i64 (i+m+1:Nat)] F=some (.ret (.tuple [u, .int .i64 (0:Nat)]),H')/\
   Ch X k H' v l B a9 f' t M R V/\Stp (fun H0=>chg l B t H0\/H0=P) F H'/\xU X H' t u I/\(∀H0,vV u H0->F.next<=H0)/\wL (Qf E q f') (h+1) I At G/\Inn (WF h) j hi At/\
   con (h+1) At=(K.2.take i).flatMap (con h)++con h x++(K.2.drop (i+m+1)).flatMap (con h)/\wX At.1 At.2.length<=wX K.1 K.2.length+285/\K.1.length<=At.1.length+m/\a<=V/\V<=a+6/\
   G.Perm (pps a (V - a)++(W++g++Sx))/\ ∀gl p,Qf E q N gl=some p->Qf E q f' gl=some p:=by
 have hl:=wi.2.2.len;have c3:small p:=by
  have:Nd.size p<=10000:=by
   simp only[Nd.size,Q,n3,n4,Bt.sumL_nil];simp only[wX]at hz;omega
  exact xW this
 have c4:=T.shaped wx.gen c0 (wL.kidOk T);have c5:Nd.size O<=10000:=by rw[T.size];have:=wx.sz;omega
 have a4: ∀y z,CutsN O y z->y.length<=6/\z.length<=6:=fun y z hc=>by
  obtain⟨ts,c1,c2⟩:=UU hc T wx;obtain⟨d1,_,d3,_⟩:=US c1 wx (.inl fx);have l1:=c2.len;have l2:=d1.2.2.len;simp only at l2;omega
 obtain⟨u,H',y,z,vs,e1,a5,c6,st,hu,c7⟩:=zLq D n hn (i:=i) (m:=m) ch g5 g7 g8 b2 b3 b4 b5 b6 b7 hv b8 c4 c5 c3 (by rw[n4,hl,Q]) (by rw[Q];exact b9) (by rw[n4];exact a6) (fun y z hc=>by have:=a4 y z hc;omega) hb;obtain⟨ts,c1,c2⟩:=UU a5 T wx;obtain⟨p1,p2,p3,p4⟩:=zIv (ks:=K.1) (ts:=K.2) wi a6 wx fx c1;have b0: ∀s I,jZ s (vC a y)=some I->R<s:=fun s I hs=>by have:=WE hs;have:=ch.le;omega
 have more: ∀gl p,Qf E q N gl=some p->Qf E q (N++vC a y) gl=some p:=fun gl p hp=>BG hq b0 hp
 have a0: ∀ {ps:List Ptr} {ts:List (Bt.Tr h)} {S:List Ptr},vG (Qf E q N) (wL (Qf E q N) h) ps ts S->vG (Qf E q (N++vC a y)) (wL (Qf E q (N++vC a y)) h) ps ts S:=fun r=>r.mono (fun gl _ p hp=>more gl p hp) (fun p K S1 _ hr=>hr.mono fun gl _ p hp=>more gl p hp)
 have c8:zDJ (Qf E q (N++vC a y)) h y ts Sx:=by
  have mono: ∀ {b1:List Nd.Node} {C:List (Bt.Tr h)} {G:List Ptr},zDJ (Qf E q N) h b1 C G->zDJ (Qf E q (N++vC a y)) h b1 C G:=by
   intro b1
   induction b1 with
   | nil=>intro C G hp;cases C with
    | nil=>exact hp
    | cons=>exact hp.elim
   | cons f b1 ih=>intro C G hp;cases C with
    | nil=>exact hp.elim
    | cons b C=>
     obtain⟨S1,S2,a1,a2,a3⟩:=hp;exact⟨S1,S2,a1.mono fun gl _ p hp=>more gl p hp,ih a2,a3⟩
  exact mono c2
 have a8: ∀U,jZ (a+1+U) N=none:=fun U=>by
  cases hk:jZ (a+1+U) N with
  | none=>rfl
  | some Q=>have:=ch.fs _ _ hk;omega
 obtain⟨S2,r2,a7⟩:=c8.kids a (fun U I hj=>by rw[BF,v8,a8];simp only[QO hj]);have rl:=vG.app (vG.app (a0 rb) r2) (a0 ra);have c9:=a4 y z a5;refine⟨u,H',_,_,a+y.length,_,(K.1.take i++z++K.1.drop (i+m),K.2.take i++ts++K.2.drop (i+m+1)),W++(S2++g),e1,c6,st,hu,c7,⟨rfl,by simp[Q],rfl, ?_⟩,p1,p2,p3,p4,by omega,by omega, ?_,more⟩
 .simp only[qH];exact rl
 .rw[show a+y.length - a=y.length by omega];rw[List.perm_iff_count]at a7⊢;intro f;have:=a7 f;simp only[List.count_append]at this⊢;omega
theorem Ch.stb {H':AH}(H0:Ch X k F h v l H q t i J L)(a:F.h.get B=some (.cells (.bool u::e) P 1 false))(s:Stp (fun A=>A=B) F H')(j:k.next<=B)(x:B≠v):Ch X k H' h v l H q t i J L:=
 H0.other s (fun P=>x P.symm) (fun P=>by subst P;rw[H0.gF]at a;cases a) (fun A f P=>by subst P;rw[H0.gg.get f]at a;simp at a) (fun kv p A f P=>by
  subst P;obtain⟨y,g⟩:=H0.pf.mem kv p;exact g.nblk a (.inl ⟨_,_,_,_,rfl,fun _ _ P=>by cases P⟩) f) (fun A f=>by subst f;exact j)
theorem xU.stb (H:xU X k t G p)(f:k.h.get h=some (.cells (.bool u::e) v 1 false))(s:Stp (fun B=>B=h) k F):xU X F t G p:=
 ⟨H.1.stp s fun B i v=>by subst v;exact H.1.nblk f (.inl ⟨_,_,_,_,rfl,fun _ _ v=>by cases v⟩) i,H.2⟩
theorem dH (h:kN k (.agg e) p): ∃r,e= .bool p.leaf::r/\e.length=4/\jV e=true:=by
 obtain⟨ks,vs,m,l,f,i,j⟩:=h;simp only[AV.agg.injEq]at l;subst l;exact⟨_,rfl,rfl,Q7 _ _ _ _ f.row.isCell i.row.isCell j.row.isCell⟩
theorem zE4 (m9 n:Nat)(hn:200000000<=n){i h:Nat}{lk:List AV}{kd:Nd.Node}{c:Bt.Tr (h+1)}{x tk:Bt.Tr h}{Sx:List Ptr}{hi:Bd}
  (ti:TI E k v J t G C H q L Q) (hold: ∀kv∈H,∀Ac,vV kv.2 Ac->Ac<k.next) (m7: ∀kv∈H,∀Ac,vV kv.2 Ac-> ¬X Ac) (hq: ∀m6 p,jZ m6 q=some p->m6<=L) (ch:Ch X k F v l B s N Y M L P)
  (hv:xU X F Y (.agg e) p) (d5:xU X F Y (.agg lk) kd)
  (n1:p.leaf=false) (n2:p.keys=c.1) (n3:p.vals=[]) (n4:p.kids.length=c.2.length) (wi:Inn (WF h) j hi c) (c6:c.1≠[]) (hz:wX c.1 c.2.length<=500) (m8:c.2[i]? =some tk)
  (ra:vG (Qf E q []) (wL (Qf E q []) h) (p.kids.take i) (c.2.take i) W) (rb:vG (Qf E q []) (wL (Qf E q []) h) (p.kids.drop (i+1)) (c.2.drop (i+1)) g)
  (rx:wL (Qf E q N) h kd x Sx) (wx:WX h (WK j c.1 i) (Q9 c.1 hi i) x) (f4:0<h->kd.keys≠[]) (hb:P<=700000000) (n0:M.length+1<=P+1000):
  (E.bd/\ ∃At H',f129 (dy (m9+1)) n [.ptr l 0, .agg e, .int .i64 (i:Nat), .agg lk] F=some (.tuple [.agg At, .int .i64 (52:Nat)],H')/\Prs F H'/\At.length=4/\jV At=true)\/ ∃u H' Z gl g' j6 y K H0 O dr R,f129 (dy (m9+1)) n [.ptr l 0, .agg e, .int .i64 (i:Nat), .agg lk] F=some (.tuple [u, .int .i64 (0:Nat)],H')/\
   Ch X k H' v l B Z gl g' j6 L y/\Adv l B F Y H' g'/\xU X H' g' u K/\wL (Qf E q gl) (h+1) K H0 O/\Inn (WF h) j hi H0/\
   con (h+1) H0=(c.2.take i).flatMap (con h)++con h x++(c.2.drop (i+1)).flatMap (con h)/\wX H0.1 H0.2.length<=wX c.1 c.2.length+285/\c.1.length<=H0.1.length+1/\P<=y/\y<=P+6/\j6=M++dr/\
   O.Perm (pps P (y - P)++(R++Sx))/\(W++g).Perm (dr++R)/\(∀ln p,Qf E q N ln=some p->Qf E q gl ln=some p)/\dr.length<=1:=by
 obtain⟨n6,rfl⟩:=qP.1 m8;have r7:=wi.2.2.len;obtain⟨rn,r8,r9,s0⟩:=dH hv.1;obtain⟨rk,n8,a7,s1⟩:=dH d5.1;obtain⟨H1,A5,b1,p1,g1,m1,s2⟩:=box ch.prs.ok (.cells e 119 1 false);obtain⟨H2,A7,b2,p2,g2,m2,s3⟩:=box p1.ok (.cells lk 119 1 false);obtain⟨H3,A8,b3,p3,g3,m3,s4⟩:=box p2.ok (.cells [.bool false, .nS, .nS, .nS] 119 1 false);have P3:Prs F H3:=(p1.trans p2).trans p3;have o0:=zOM p3 p2.ok (zOM p2 p1.ok g1);have c0:=zOM p3 p2.ok g2;have f5:small kd:=xW (by rw[rx.size];have:=wx.sz;omega);obtain⟨z,H4,e4,rfl,p4⟩:=JR (dy (m9+1)) n P3.ok (d5.1.prs P3).node f5 hn;have I:=P3.trans p4;have c7:=zOM p4 P3.ok o0;have j7:=zOM p4 P3.ok c0;have f6:=zOM p4 P3.ok g3;have a2:=ch.step I;have N0:=ch.prs.next
 have cc:=ch.ltC;have f7: ∀ln p,Qf E q [] ln=some p->Qf E q N ln=some p:=fun ln p hp=>by
  have:=BG (new:=N) hq (fun m6 K hs=>(ch.fs m6 K hs).1) hp;simpa using this
 have b8: ∀ {ps:List Ptr} {ts:List (Bt.Tr h)} {S:List Ptr},vG (Qf E q []) (wL (Qf E q []) h) ps ts S->vG (Qf E q N) (wL (Qf E q N) h) ps ts S:=fun r=>r.mono (fun ln _ p hp=>f7 ln p hp) (fun p c S1 _ hr=>hr.mono fun ln _ p hp=>f7 ln p hp)
 have o1:(i:Int)+((1:Nat):Int)=((i+1:Nat):Int):=by omega
 have s5:i<=1000:=by simp only[wX]at hz;omega
 have r4:=rx.size;by_cases f2:wM h x<160
 case neg=>
  have b9: ¬((Nd.size kd:Nat):Int)< ((160:Nat):Int):=by omega
  have fx:Full h x:=by
   cases h with
   | zero=>
    intro c3;have c3:x=([]:Nd.Kvs):=c3;rw[c3]at f2;exact f2 (by decide)
   | succ h=>exact Nat.le_of_not_lt f2
  obtain⟨u,H5,Z,gl,y,K,H0,O,e5,a9,st,hu,d6,r5,w5,c5,z5,k5,l1,l2,pm,more⟩:=zAg (dy (m9+1)) n hn (i:=i) (m:=0) (h:=h) a2 c7 j7 f6 (by omega) (by have:=p1.next;omega) (by have:=p1.next;have:=p2.next;omega) (by have:=p2.next;omega) (by omega) (by have:=p1.next;have:=p2.next;omega)
   (hv.prs I) (d5.prs I) hq n1 n2 n3 n4 wi c6 hz (by simpa using n6) (b8 ra) (by simpa using b8 rb) rx (by simpa using wx) fx f4 (by omega)
  refine .inr ⟨u,H5,Z,gl,Y,M,y,K,H0,O,[],W++g, ?_,a9, ?_,hu,r5,w5,by simpa using c5,z5,by omega,l1,l2,by simp, ?_,by simp,more,by simp⟩
  .simp(maxSteps:=999999)(disch:=omega) only[f129,eZ,b1,b2,b3,o1,uG c0 a7,e4,b9];simp only[Nat.add_zero]at e5;rw[e5];rfl
  .refine⟨⟨st.ok,by have:=st.next;have:=I.next;omega,fun Ac d hS=> ?_⟩,fun Ac d=> .inl d⟩
   rw[st.keep Ac (by have:=I.next;omega) (fun hx=>by
    rcases hx with hx | hx
    .exact hS hx
    .have:=p1.next;have:=p2.next;omega)]
   exact I.keep Ac d (fun x=>x)
  .exact pm
 case pos=>
 have b9:((Nd.size kd:Nat):Int)< ((160:Nat):Int):=by omega
 have l8: ∃b es tb a3 U,p.kids[b]? =some U/\Qf E q [] U=some es/\wL (Qf E q []) h es tb a3/\c.2[b]? =some tb/\
   ((b+1=i/\ ∃a4,vG (Qf E q []) (wL (Qf E q []) h) (p.kids.take b) (c.2.take b) a4/\W=a4++(U::a3))\/(i=0/\b=1/\ ∃a5,vG (Qf E q []) (wL (Qf E q []) h) (p.kids.drop 2) (c.2.drop 2) a5/\g=U::(a3++a5))):=by
  have s6:0<c.1.length:=by
   rcases Nat.eq_zero_or_pos c.1.length with c3 | c3
   .exact absurd (zR c3) c6
   .exact c3
  cases i with
  | zero=>
   have h1:1<c.2.length:=by omega
   rw[show(0+1:Nat)=1 from rfl,qN h1,qN (show 1<p.kids.length by omega)]at rb;obtain⟨es,S1,S2,q1,q2,q3,c3⟩:=rb;exact⟨1,es,c.2[1],S1,_,zK (by omega),q1,q2,zK h1, .inr ⟨rfl,rfl,S2,q3,c3⟩⟩
  | succ Sa=>
   have h1:Sa<c.2.length:=by omega
   rw[qQ h1,qQ (show Sa<p.kids.length by omega)]at ra;obtain⟨T1,T2,r1,r2,c3⟩:=ra.split Sa;have e1:(p.kids.take Sa++[p.kids[Sa]'(by omega)]).take Sa=p.kids.take Sa:=jD (by rw[qC];omega);have e2:(p.kids.take Sa++[p.kids[Sa]'(by omega)]).drop Sa=[p.kids[Sa]'(by omega)]:=jA (by rw[qC];omega);have e3:(c.2.take Sa++[c.2[Sa]]).take Sa=c.2.take Sa:=jD (by rw[qC];omega);have e4:(c.2.take Sa++[c.2[Sa]]).drop Sa=[c.2[Sa]]:=jA (by rw[qC];omega);rw[e1,e3]at r1;rw[e2,e4]at r2;obtain⟨es,S1,S2,q1,q2,q3,e5⟩:=r2;have q3:S2=[]:=q3;subst q3;exact⟨Sa,es,c.2[Sa],S1,_,zK (by omega),q1,q2,zK h1, .inl ⟨rfl,T1,r1,by rw[c3,e5,qW]⟩⟩
 obtain⟨b,es,tb,a3,U,kb,hs,f8,j8,i9⟩:=l8;obtain⟨f9,rfl⟩:=qP.1 j8;have d7:b<p.kids.length:=by omega
 have j9:p.kids[b]=U:=by rw[zK d7]at kb;exact yG kb
 have V:WF h (WK j c.1 b) (Q9 c.1 hi b) c.2[b]:=KB.at wi.2.2 j8;have o2:=ti.prs a2.prs;obtain⟨ks,s8,ps,d8,k1,k2,k3⟩:=id (hv.prs I).1;simp only[AV.agg.injEq]at d8;obtain⟨H5,k0,b5,p5,g5,m5,n5⟩:=box a2.prs.ok (.cells [.bool false, .nS, .nS, .nS] 119 1 false);obtain⟨lb,H6,re,e6,p6,⟨g0,o3⟩,o5⟩:=zBM m9 n hn (o2.prs p5) hs;obtain⟨H7,e7,g7,s7,n7⟩:=kE p6.ok (zOM p6 p5.ok g5) (l':=lb) g0 o3;have d9:stN 4 (.ptr k0 0) (.agg lb) H6=some (jU,H7):=e7;have N4:=I.next;have N5:=p5.next;have N6:=p6.next
 have T:Prs H4 H7:=(p5.trans p6).fresh s7 (fun Ac d=>by omega);have o6:bY H4 ps p.kids:=k3.row;obtain⟨u4,o4,g4⟩:=o6.at d7;rw[j9]at g4;have z3:ld1 (.ptr A5 3) H4=some ps:=by rw[jR c7,d8];rfl
 rcases o5 with⟨rfl,k4,d3⟩ | ⟨rfl,o7⟩
 rotate_left
 .have e0:=zOM T I.ok f6;obtain⟨root,e9,g9,s9,n9⟩:=kE T.ok e0 (l':=[.bool false, .nS, .nS, .nS]) rfl rfl;have k6:stN 4 (.ptr A8 0) (.agg [.bool false, .nS, .nS, .nS]) H7=some (jU,root):=e9;have t52:((52:Nat):Int)≠((0:Nat):Int):=by omega
  have Q1:=p1.next;have Q2:=p2.next
  refine .inl ⟨o7,[.bool false, .nS, .nS, .nS],root, ?_,(I.trans T).fresh s9 (fun Ac d=>by omega),rfl,rfl⟩;rcases i9 with⟨g6,_⟩ | ⟨rfl,rfl,_⟩
  .subst g6;have g8:((b+1:Nat):Int) - ((1:Nat):Int)=((b:Nat):Int):=by omega
   have h0: ¬((b+1:Nat):Int)=((0:Nat):Int):=by omega
   have c4:((b+1:Nat):Int)+((1:Nat):Int)=((b+1+1:Nat):Int):=by omega
   simp(config:= { maxSteps:=2000000}) (disch:=omega) only[f129,eZ,b1,b2,b3,c4,uG c0 a7,e4,b9,g8,h0,XW,jR a2.gC,z3,o4,g4,b5,e6,jS,nth,d9,t52,ne_eq,yQ,fQ,k6,uG g9 rfl]
  .have c4:((0:Nat):Int)+((1:Nat):Int)=((0+1:Nat):Int):=by omega
   simp(config:= { maxSteps:=2000000}) (disch:=omega) only[f129,eZ,b1,b2,b3,c4,uG c0 a7,e4,b9,XW,jR a2.gC,z3,o4,g4,b5,e6,jS,nth,d9,t52,ne_eq,yQ,fQ,k6,uG g9 rfl]
 have b0:=a2.step T;have j0:kN H7 (.agg lb) es:=k4.stp s7 (fun Ac d c3=>by
  subst c3;exact k4.nblk (zOM p6 p5.ok g5) (.inl ⟨_,_,_,_,rfl,fun _ _ c3=>by cases c3⟩) d)
 have o8:xU X H7 Y (.agg lb) es:=by
  rcases d3 with⟨kk,d3⟩ | d6
  .exact j0.hand b0 (fun Ac d=>hold _ d3 Ac d) (m7 _ d3)
  .refine⟨j0,fun Ac d=>⟨fun hg=> ?_,fun hx=> ?_⟩⟩
   .have h1:=d6 Ac d;have h2:=zOR (a2.step p5).gg.row hg;omega
   .have h1:=d6 Ac d;have h2:=ch.xo Ac hx;have h3:=(a2.step p5).prs.next
    omega
 obtain⟨g',H8,e8,b4,a8⟩:=zGc (dy (m9+1)) n b0 U n0 (by omega);have k7:=b0.next (hv.prs (I.trans T)) a8
 have k8:=b0.next (d5.prs (I.trans T)) a8
 have k9:=b0.next o8 a8
 have np: ∀ {A:Nat} {At:List AV} {c3:Nat},H7.h.get A=some (.cells At c3 1 false)->A≠l-> ¬chg l B Y A:=fun {A At c3} hg c6 hc=>by
  rcases hc with c3 | c3 | c3
  .exact c6 c3
  .rw[c3,b0.gF]at hg;cases hg
  .rw[b0.gg.get c3]at hg;simp at hg
 have M1:=p1.next;have M2:=p2.next;have M3:=p3.next;have M4:=p4.next;have M7:=T.next
 have f1:=zOM T I.ok c7;have l0:=zOM T I.ok j7;have e0:=zOM T I.ok f6;have h4:H8.h.get A5=some (.cells e 119 1 false):=by rw[a8.1.keep _ (by omega) (np f1 (by omega))];exact f1
 have h5:H8.h.get A7=some (.cells lk 119 1 false):=by rw[a8.1.keep _ (by omega) (np l0 (by omega))];exact l0
 have o9:H8.h.get A8=some (.cells [.bool false, .nS, .nS, .nS] 119 1 false):=by rw[a8.1.keep _ (by omega) (np e0 (by omega))];exact e0
 have j4:H8.h.get k0=some (.cells lb 119 1 false):=by rw[a8.1.keep _ (by omega) (np g7 (by omega))];exact g7
 have k34:bY H4 ps p.kids:=k3.row;obtain⟨q4,i4,h6⟩:=k34.at d7;obtain⟨q7,i7,h7⟩:=(k34.prs T).at d7;rw[j9]at h6 h7;obtain rfl:q7=q4:=by
  have e1:=i4 .i64 b rfl;rw[i7 .i64 b rfl]at e1;exact yG e1
 have j5:small es:=xW (by rw[f8.size];have:=V.sz;omega);have b6:wL (Qf E q N) h es c.2[b] a3:=f8.mono fun ln _ p hp=>f7 ln p hp
 have l3:0<h->es.keys≠[]:=fun hh=>by
  cases h with
  | zero=>omega
  | succ h=>
   have:=ZI V;rw[f8.2.1];intro c3;rw[c3]at this;simp at this
 have l4: ¬(((0:Nat):Int)≠((0:Nat):Int)):=by omega
 have b7: ∀Hx:AH,Hx.h.get A5=some (.cells e 119 1 false)->ld1 (.ptr A5 3) Hx=some ps/\ld1 (.ptr A5 1) Hx=some ks:=fun Hx hg=>by
  rw[jR hg,jR hg,d8];exact⟨rfl,rfl⟩
 have l5:Strs H8 ks p.keys:=by
  obtain⟨t0,vs',t1,d4,j1,j2,j3⟩:=id k7.1;simp only[AV.agg.injEq]at d4;rw[d8]at d4;simp only[y9,and_true]at d4;obtain⟨_,rfl,_,_⟩:=d4;exact j1.row
 have l6: ∀(Sa m:Nat) (sep:Str) (u:AV) (c8:Nd.Node) (x':Bt.Tr h) (h8 a4 a5:List Ptr) (root:AH),Prs H8 root->Q8 H8 root u c8->wL (Qf E q N) h c8 x' h8->WX h (WK j c.1 Sa) (Q9 c.1 hi (Sa+m)) x'->Full h x'->(0<h->c8.keys≠[])->Sa+m<c.2.length->
   vG (Qf E q N) (wL (Qf E q N) h) (p.kids.take Sa) (c.2.take Sa) a4->vG (Qf E q N) (wL (Qf E q N) h) (p.kids.drop (Sa+m+1)) (c.2.drop (Sa+m+1)) a5->
   ∃a6,stN 4 (.ptr A7 0) u root=some (jU,a6)/\ ∃u H' Z gl y K H0 O,zAQ (dy (m9+1)) n [.ptr l 0, .ptr A5 0, .ptr A7 0, .ptr A8 0, .int .i64 (Sa:Nat), .int .i64 (Sa+m+1:Nat)] a6=some (.ret (.tuple [u, .int .i64 (0:Nat)]),H')/\
    Ch X k H' v l B Z gl g' (M++[U]) L y/\Adv l B F Y H' g'/\xU X H' g' u K/\wL (Qf E q gl) (h+1) K H0 O/\Inn (WF h) j hi H0/\
    con (h+1) H0=(c.2.take Sa).flatMap (con h)++con h x'++(c.2.drop (Sa+m+1)).flatMap (con h)/\wX H0.1 H0.2.length<=wX c.1 c.2.length+285/\c.1.length<=H0.1.length+m/\P<=y/\y<=P+6/\
    O.Perm (pps P (y - P)++(a4++a5++h8))/\ ∀ln p,Qf E q N ln=some p->Qf E q gl ln=some p:=by
  intro Sa m sep u c8 x' h8 a4 a5 root o w9 p0 p7 p8 l9 c9 h9 i0;have l7:=w9.free;obtain⟨lu,rfl,t2,q0⟩:=l7.1.cells;have q5:=b4.step o;have q6:xU X root g' (.agg lu) c8:=vW.hand b4 (zP _) l7;have d0:=zOM o b4.prs.ok h5;obtain⟨a6,c1,q8,c2,t3⟩:=kE o.ok d0 (l':=lu) (by omega) q0;have m0:stN 4 (.ptr A7 0) (.agg lu) root=some (jU,a6):=by rw[a7]at c1;exact c1
  rw[n8]at d0;have m4:=q5.stb d0 c2 (by omega) (by omega);have N8:=a8.1.next;have N9:=o.next
  have q9:a6.h.get A5=some (.cells e 119 1 false):=by rw[c2.keep _ (by omega) (by omega)];exact zOM o b4.prs.ok h4
  have r0:a6.h.get A8=some (.cells [.bool false, .nS, .nS, .nS] 119 1 false):=by rw[c2.keep _ (by omega) (by omega)];exact zOM o b4.prs.ok o9
  obtain⟨u',H',Z,gl,y,K,H0,O,e5,a9,st,hu,d6,r5,w5,c5,z5,k5,l1,l2,pm,more⟩:=zAg (dy (m9+1)) n hn (i:=Sa) (m:=m) (h:=h) m4 q9 q8 r0 (by omega) (by omega) (by omega) (by omega) (by omega) (by omega)
   ((k7.prs o).stb d0 c2) (q6.stb d0 c2) hq n1 n2 n3 n4 wi c6 hz c9 h9 i0 p0 p7 p8 l9 (by omega)
  refine⟨a6,m0,u',H',Z,gl,y,K,H0,O,e5,a9, ?_,hu,r5,w5,c5,z5,k5,l1,l2,pm,more⟩;refine⟨⟨st.ok,by have:=st.next;omega,fun Ac d hS=> ?_⟩,fun Ac d=> ?_⟩
  .have a1:H8.h.get Ac=F.h.get Ac:=by
    rw[a8.1.keep Ac (by omega) hS,T.keep Ac (by omega) (fun x=>x)];exact I.keep Ac d (fun x=>x)
   rw[st.keep Ac (by omega) (fun hx=>by
    rcases hx with hx | hx
    .rcases hx with c3 | c3 | c3
     .exact hS (.inl c3)
     .exact hS (.inr (.inl c3))
     .rcases a8.2 Ac c3 with c3 | c3
      .exact hS (.inr (.inr c3))
      .omega
    .omega),c2.keep Ac (by omega) (by omega),o.keep Ac (by omega) (fun x=>x)]
   exact a1
  .rcases a8.2 Ac d with c3 | c3
   .exact .inl c3
   .exact .inr (by omega)
 refine .inr ?_;rcases i9 with⟨g6,a4,h9,rfl⟩ | ⟨rfl,rfl,a5,i0,rfl⟩
 ·
  subst g6;have f:b<c.1.length:=by omega
  have a0:=wi.1 _ (yJ f);have t4:c.1.getD b []=c.1[b]:=by rw[qG,zK f];rfl
  have i1:Q9 c.1 hi b=some c.1[b]:=by simp only[Q9,zK f]
  have i2:WK j c.1 (b+1)=some c.1[b]:=by simp only[WK,zK f]
  rw[i1]at V;rw[i2]at wx;have c9:=zCX b6 rx V.gen wx.gen a0.1 l3 f4 (wL.kidOk b6) (wL.kidOk rx);obtain⟨u,root,e9,o,w9⟩:=zFZ (dy (m9+1)) n hn b4.prs.ok (sep:=c.1[b]) k9.1.node k8.1.node j5 f5;rw[c9]at e9 w9;simp only[if_true]at e9 w9;have d1:=XK a0.1;have js:=KC h c.2[b] c.1[b] x d1;have wj:WX h (WK j c.1 b) (Q9 c.1 hi (b+1)) (ZP h c.2[b] c.1[b] x):=Gen.wx (zCY V.gen wx.gen ⟨a0.1,by
   have r6:=KB.at wi.2.2 (zK f9)
   cases b with
   | zero=>exact a0.2.1
   | succ b'=>
    simp only[WK,zK (show b'<c.1.length by omega)];have:=(Nd.rising_ix ltS c.1).1 wi.2.1 b' f;exact this,by
   by_cases c3:b+1<c.1.length
   .simp only[Q9,zK c3];exact(Nd.rising_ix ltS c.1).1 wi.2.1 b c3
   .simp only[Q9,List.getElem?_eq_none (show c.1.length<=b+1 by omega)];exact a0.2.2⟩) (by have:=V.sz;omega)
  obtain⟨a6,c1,u',H',Z,gl,y,K,H0,O,e5,a9,i3,hu,r5,w5,c5,z5,k5,l1,l2,pm,more⟩:=l6 b 1 c.1[b] u _ _ (a3++Sx) a4 g root o w9 (wL.join b6 rx c.1[b]) wj (zAG d1 (.inl V.full)) (fun hh c3=>by
   cases h with
   | zero=>omega
   | succ h=>
    have:(dP es c.1[b] kd).keys=es.keys++([c.1[b]]++kd.keys):=by simp only[dP,b6.1,zM,qE]
    rw[this]at c3;simp at c3) (by omega) (b8 h9) (b8 rb)
  refine⟨u',H',Z,gl,g',M++[U],y,K,H0,O,[U],a4++(a3++g), ?_,a9,i3,hu,r5,w5, ?_,z5,k5,l1,l2,rfl, ?_, ?_,more,by simp⟩
  .have g8:((b+1:Nat):Int) - ((1:Nat):Int)=((b:Nat):Int):=by omega
   have h0: ¬((b+1:Nat):Int)=((0:Nat):Int):=by omega
   have i5:mn2 (.int .i64 (b+1:Nat)) (.int .i64 ((b:Nat):Int))=some (.int .i64 ((b:Nat):Int)):=by
    have:ilt ((b:Nat):Int) ((b+1:Nat):Int)=true:=by rw[uL];simp;omega
    simp only[mn2,this,zU]
   have i6:mx2 (.int .i64 (b+1:Nat)) (.int .i64 ((b:Nat):Int))=some (.int .i64 (b+1:Nat)):=by
    have:ilt ((b+1:Nat):Int) ((b:Nat):Int)=false:=by rw[uL];simp;omega
    simp only[mx2,this,yM]
   have f3:((b:Nat):Int)< ((b+1:Nat):Int):=by omega
   have c4:((b+1:Nat):Int)+((1:Nat):Int)=((b+1+1:Nat):Int):=by omega
   obtain⟨qk,ik,d2⟩:=l5.at (i:=b) (by rw[n2];exact f);have i8:p.keys[b]'(by rw[n2];exact f)=c.1[b]:=by simp[n2]
   rw[i8]at d2;simp(config:= { maxSteps:=2000000}) (disch:=omega) only[f129,eZ,b1,b2,b3,c4,uG c0 a7,e4,b9,g8,h0,XW,jR a2.gC,(b7 H4 c7).1,i4,h6,b5,e6,jS,nth,d9,l4,(b7 H7 f1).1,i7,h7,e8,i5,i6,f3,uG j4 g0,(b7 H8 h4).2,ik,d2,uG h5 a7,e9,c1,zAR,e5]
  .rw[c5,zDq,qQ f9,jK,qL,List.flatMap_nil,qW];simp only[qH]
  .rw[List.perm_iff_count]at pm⊢;intro a;have:=pm a;simp only[List.count_append,List.count_cons]at this⊢;omega
  .rw[List.perm_iff_count];intro a;simp only[List.count_append,List.count_cons,List.count_nil];omega
 ·
  have f:0<c.1.length:=by omega
  have a0:=wi.1 _ (yJ f);have i1:Q9 c.1 hi 0=some c.1[0]:=by simp only[Q9,zK f]
  have i2:WK j c.1 1=some c.1[0]:=by simp only[WK,zK f]
  rw[i2]at V;rw[i1]at wx;have c9:=zCX rx b6 wx.gen V.gen a0.1 f4 l3 (wL.kidOk rx) (wL.kidOk b6);obtain⟨u,root,e9,o,w9⟩:=zFZ (dy (m9+1)) n hn b4.prs.ok (sep:=c.1[0]) k8.1.node k9.1.node f5 j5;rw[c9]at e9 w9;simp only[if_true]at e9 w9;have d1:=XK a0.1;have js:=KC h x c.1[0] c.2[1] d1;have wj:WX h (WK j c.1 0) (Q9 c.1 hi (0+1)) (ZP h x c.1[0] c.2[1]):=Gen.wx (zCY wx.gen V.gen ⟨a0.1,a0.2.1,by
   by_cases c3:1<c.1.length
   .simp only[Q9,zK (show 0+1<c.1.length by omega)];exact(Nd.rising_ix ltS c.1).1 wi.2.1 0 (by omega)
   .simp only[Q9,List.getElem?_eq_none (show c.1.length<=0+1 by omega)];exact a0.2.2⟩) (by have:=V.sz;omega)
  obtain⟨a6,c1,u',H',Z,gl,y,K,H0,O,e5,a9,i3,hu,r5,w5,c5,z5,k5,l1,l2,pm,more⟩:=l6 0 1 c.1[0] u _ _ (Sx++a3) W a5 root o w9 (wL.join rx b6 c.1[0]) wj (zAG d1 (.inr V.full)) (fun hh c3=>by
   cases h with
   | zero=>omega
   | succ h=>
    have:(dP kd c.1[0] es).keys=kd.keys++([c.1[0]]++es.keys):=by simp only[dP,rx.1,zM,qE]
    rw[this]at c3;simp at c3) (by omega) (b8 ra) (b8 i0)
  refine⟨u',H',Z,gl,g',M++[U],y,K,H0,O,[U],W++(a3++a5), ?_,a9,i3,hu,r5,w5, ?_,z5,k5,l1,l2,rfl, ?_, ?_,more,by simp⟩
  .have i5:mn2 (.int .i64 (0:Nat)) (.int .i64 (1:Nat))=some (.int .i64 (0:Nat)):=rfl;have i6:mx2 (.int .i64 (0:Nat)) (.int .i64 (1:Nat))=some (.int .i64 (1:Nat)):=rfl;have f3: ¬((1:Nat):Int)< ((0:Nat):Int):=by omega
   have r3:((1:Nat):Int)+((1:Nat):Int)=((0+1+1:Nat):Int):=by omega
   obtain⟨qk,ik,d2⟩:=l5.at (i:=0) (by rw[n2];exact f);have i8:p.keys[0]'(by rw[n2];exact f)=c.1[0]:=by simp[n2]
   rw[i8]at d2;simp(config:= { maxSteps:=2000000}) (disch:=omega) only[f129,eZ,b1,b2,b3,uG c0 a7,e4,b9,XW,jR a2.gC,(b7 H4 c7).1,i4,h6,b5,e6,jS,nth,d9,l4,(b7 H7 f1).1,i7,h7,e8,i5,i6,f3,r3,uG j4 g0,(b7 H8 h4).2,ik,d2,uG h5 a7,e9,c1,zAR,e5]
  .have e1:c.2.drop (0+1)=c.2[1]::c.2.drop 2:=qN f9;rw[c5,zDq,e1];simp only[List.take_zero,List.flatMap_nil,yE,qL,qH,show 0+1+1=2 from rfl]
  .rw[List.perm_iff_count]at pm⊢;intro a;have:=pm a;simp only[List.count_append,List.count_cons]at this⊢;omega
  .rw[List.perm_iff_count];intro a;simp only[List.count_append,List.count_cons,List.count_nil];omega
end Go.Eng.Sh
end
section
namespace Go.Bt
open Go.Nd (Str Kvs lookP putP delP leafOf mayK)
open Go.Eng (ltS)
inductive Ed
 | put (k v:Str)
 | del (k:Str)
def Ed.key:Ed->Str
 | .put k _=>k
 | .del k=>k
def Ed.run:Ed->Kvs->Option Kvs
 | .put k v,l=>some (putP k v l)
 | .del k,l=>if(lookP k l).isSome then some (delP k l)else none
def Ed.ok:Ed->Prop
 | .put k v=>mayK k=true/\v.length<=200
 | .del k=>mayK k=true
theorem Ed.run_mid (ed:Ed){A C B:Kvs}(a: ∀p∈A,ltS p.1 ed.key=true)(f: ∀p∈B,ltS ed.key p.1=true):ed.run (A++C++B)=(ed.run C).map fun c=>A++c++B:=by
 cases ed with
 | put k v=>simp only[Ed.run,qA,zFz (k:=k) a f]
 | del k=>
  simp only[Ed.run,zCS (k:=k) a f,zGZ (k:=k) a f];split<;>rfl
theorem Ed.leaf {ed:Ed}{lo hi:Bd}{l':Kvs}(a:Lf lo hi I)(hl:zFT lo ed.key)(h:hiB hi ed.key)(f:ed.ok)(hr:ed.run I=some l'):Lf lo hi l'/\wU l'<=wU I+242:=by
 cases ed with
 | put k v=>
  simp only[Ed.run,zC]at hr;subst hr;exact zIG a hl h f.1 f.2
 | del k=>
  simp only[Ed.run]at hr;split at hr
  .simp only[zC]at hr;subst hr;have:=zIH k a;exact⟨this.1,by omega⟩
  .cases hr
end Go.Bt
namespace Go.Eng.Sh
open Go.Nd (Ptr sumL leafOf Kvs)
open Go.Bt
variable {X:Nat->Prop}
def edF (ed:Ed)(K V:Nat):AV:=match ed with
 | .put _ _=> .func 88 [] [.ptr K 0, .ptr V 0]
 | .del _=> .func 83 [] [.ptr K 0]
def edB (H:AH)(ed:Ed)(K V:Nat):Prop:=match ed with
 | .put k v=>Box H K (S k)/\Box H V (S v)
 | .del k=>Box H K (S k)
theorem edB.prs {ed:Ed}(H':edB k ed h v)(a:k.ok)(s:Prs k F):edB F ed h v:=by
 cases ed with
 | put H K=>exact⟨H'.1.mono a s (fun x=>x),H'.2.mono a s (fun x=>x)⟩
 | del H=>exact Box.mono H' a s (fun x=>x)
def edL (ed:Ed)(l:Kvs):Nd.Node×Nat:=match ed.run l with
 | some l'=>(leafOf l',0)
 | none=>(nd0,5)
theorem zJ1 (hi:Nat)(hm:200000000<=hi)(C:k.ok){ed:Ed}(Q:kN k t (leafOf I))(o:Lf j m I)(hz:wU I<=10000)(ho:ed.ok)(hb:edB k ed h v):
  ∃u H',(match ed with | .put _ _=>f88 (dy hi) hi [t, .ptr h 0, .ptr v 0] k | .del _=>f83 (dy hi) hi [t, .ptr h 0] k)=some (.tuple [u, .int .i64 ((edL ed I).2:Nat)],H')/\Prs k H'/\vW k.next H' u (edL ed I).1:=by
 have U:Nd.shaped ltS (leafOf I)=true:=Nd.leaf_shaped o.1 fun p hp=>(o.2 p hp).2.2
 obtain⟨lv,rfl,O,a2⟩:=Q.cells;obtain⟨H1,A3,b1,q,S,m1,n1⟩:=box C (.cells lv 119 1 false);obtain⟨H2,A4,b2,F,g2,m2,n2⟩:=box q.ok (.cells [.bool false, .nS, .nS, .nS] 119 1 false);have f:=q.trans F;have W:small (leafOf I):=xW hz;have N1:=q.next;have N2:=F.next
 have Y: ∀ {u:AV} {T:Nd.Node} {s:AH},Prs H2 s->vW H2.next s u T-> ∃a,stN 4 (.ptr A4 0) u s=some (jU,a)/\Prs k a/\vW k.next a u T/\ldN 4 (.ptr A4 0) a=some u:=fun {u T s} lo J=>by
  obtain⟨lu,rfl,Z,a0⟩:=J.1.cells;obtain⟨a,V,g4,s4,n4⟩:=kE lo.ok (zOM lo f.ok g2) (l':=lu) Z a0;refine⟨a,V,(f.trans lo).fresh s4 (fun B L=>by omega),⟨J.1.stp s4 (fun B L e=> ?_),fun B L=>by have:=J.2 B L;omega⟩,uG g4 Z⟩;have:=J.2 B L;omega
 cases ed with
 | put H x=>
  obtain⟨u,s,i,lo,G⟩:=zIs (dy hi) hi hm f.ok (key:=H) (value:=x) (Q.prs f) W;have a1:zE2 (leafOf I) H x=true:=by simp only[zE2,U,show(leafOf I).leaf=true from rfl,ho.1,ho.2,Bool.true_and,decide_true]
  rw[a1]at i G;simp only[if_true,Nd.put_leaf _ _ o.1]at i G;obtain⟨a,V,M,y,N⟩:=Y lo G;refine⟨u,a, ?_,M,y⟩;simp(maxSteps:=999999)(disch:=omega) only[f88,eZ,b1,b2,uG (zOM F q.ok S) O,(hb.1.mono C f (fun x=>x)).ld,(hb.2.mono C f (fun x=>x)).ld,i,jS,nth,V,N,edL,Ed.run]
 | del H=>
  obtain⟨u,s,i,lo,G⟩:=zJ6 (dy hi) hi hm f.ok (key:=H) (Q.prs f) W;have K:zMV (leafOf I) H=if(Nd.lookP H I).isSome then 0 else 5:=by
   simp only[zMV,U,show(leafOf I).leaf=true from rfl,qO,if_true,Nd.here_look _ o.1]
  obtain⟨a,V,M,y,N⟩:=Y lo G
  cases l:(Nd.lookP H I).isSome with
  | true=>
   rw[l]at K;simp only[if_true]at K;rw[K]at i;simp only[K,if_true,Nd.del_leaf _ o.1 ((Nd.here_look _ o.1).trans l)]at y;have z:edL (.del H) I=(leafOf (Nd.delP H I),0):=by simp only[edL,Ed.run,l,if_true]
   refine⟨u,a, ?_,M,by rw[z];exact y⟩;rw[z];simp(maxSteps:=999999)(disch:=omega) only[f83,eZ,b1,b2,uG (zOM F q.ok S) O,(Box.mono hb C f (fun x=>x)).ld,i,jS,nth,V,N]
  | false=>
   rw[l]at K;simp only[zM,qE]at K;rw[K]at i;have h5: ¬(5:Nat)=0:=by decide
   simp only[K,h5,qE]at y;have z:edL (.del H) I=(nd0,5):=by simp only[edL,Ed.run,l,zM,qE]
   refine⟨u,a, ?_,M,by rw[z];exact y⟩;rw[z];simp(maxSteps:=999999)(disch:=omega) only[f83,eZ,b1,b2,uG (zOM F q.ok S) O,(Box.mono hb C f (fun x=>x)).ld,i,jS,nth,V,N]
theorem zGS (l n:Nat)(hm:200000000<=l)(a:k.ok){ed:Ed}(f:kN k t (leafOf I))(K:Lf j m I)(i:wU I<=10000)(V:ed.ok)(hb:edB k ed h v):
  ∃u H',callV [(76,f76 (dy (l+1)) n),(77,f77 (dy (l+1)) n),(79,f79 (dy (l+1)) n),(129,f129 (dy (l+1)) n),(130,f130 (dy (l+1)) n)] (dy (l+1)) (edF ed h v) [t] k=some (.tuple [u, .int .i64 ((edL ed I).2:Nat)],H')/\callV [(127,f127 (dy (l+1)) n),(126,f126 (dy (l+1)) n),(131,f131 (dy (l+1)) n)] (dy (l+1)) (edF ed h v) [t] k=some (.tuple [u, .int .i64 ((edL ed I).2:Nat)],H')/\Prs k H'/\vW k.next H' u (edL ed I).1:=by
 obtain⟨u,H',e,p,w⟩:=zJ1 l hm a f K i V hb;refine⟨u,H', ?_, ?_,p,w⟩
 .cases ed with
  | put H x=>exact e
  | del H=>exact e
 .cases ed with
  | put H x=>exact e
  | del H=>exact e
def zEn (Bd Bt a Bk f h:Nat):AV:= .func 128 [] [.ptr Bd 0, .ptr Bt 0, .ptr a 0, .ptr Bk 0, .ptr f 0, .ptr h 0]
structure Cl (H0 H:AH)(At Ac K V:Nat)(ed:Ed)(Bd Bt Be Bk Bf Bc d:Nat):Prop where
 bd:Box H Bd (.int .i64 (d:Nat))
 bt:Box H Bt (.ptr At 0)
 be:Box H Be (edF ed K V)
 bk:Box H Bk (S ed.key)
 bf:Box H Bf (zEn Bd Bt Be Bk Bf Bc)
 bc:Box H Bc (.ptr Ac 0)
 eb:edB H0 ed K V
 fr:H0.next<=Bd
 n1:Bt≠Bd
 n2:Be≠Bd
 n3:Bk≠Bd
 n4:Bf≠Bd
 n5:Bc≠Bd
theorem _root_.Go.Eng.Box.nchg (H0:Box F L G)(a:Ch X k F h v l H q t i B J): ¬chg v l t L:=fun j=>by
 obtain⟨e,H0⟩:=H0;rcases j with rfl | rfl | j
 .rw[a.gC]at H0;simp at H0
 .rw[a.gF]at H0;cases H0
 .rw[a.gg.get j]at H0;simp at H0
theorem Cl.keep {H':AH}{ed:Ed}{p d:Nat}{K V:Nat}(H0:Cl k F h v B J ed L P R a c p d)(j:Ch X k F h v l H q t i K V)(s:Stp (chg v l t) F H'):Cl k H' h v B J ed L P R a c p d:=
 ⟨H0.bd.mono j.prs.ok s (H0.bd.nchg j),H0.bt.mono j.prs.ok s (H0.bt.nchg j),H0.be.mono j.prs.ok s (H0.be.nchg j),H0.bk.mono j.prs.ok s (H0.bk.nchg j),H0.bf.mono j.prs.ok s (H0.bf.nchg j),H0.bc.mono j.prs.ok s (H0.bc.nchg j),H0.eb,H0.fr,H0.n1,H0.n2,H0.n3,H0.n4,H0.n5⟩
theorem Cl.prs {H':AH}{ed:Ed}{d:Nat}(H0:Cl k F h v l B ed J L P R a c d)(H:F.ok)(s:Prs F H'):Cl k H' h v l B ed J L P R a c d:=
 ⟨H0.bd.mono H s (fun x=>x),H0.bt.mono H s (fun x=>x),H0.be.mono H s (fun x=>x),H0.bk.mono H s (fun x=>x),H0.bf.mono H s (fun x=>x),H0.bc.mono H s (fun x=>x),H0.eb,H0.fr,H0.n1,H0.n2,H0.n3,H0.n4,H0.n5⟩
theorem Cl.deeper {ed:Ed}{y d:Nat}{p V:Nat}(H0:Cl k F h v B J ed L P R a c y d)(K:Ch X k F h v l H q t i p V):
  ∃H',stN 1 (.ptr L 0) (.int .i64 (d+1:Nat)) F=some (jU,H')/\Cl k H' h v B J ed L P R a c y (d+1)/\Ch X k H' h v l H q t i p V/\Stp (fun j=>j=L) F H':=by
 obtain⟨H',e,b,s⟩:=H0.bd.st K.prs.ok (x:= .int .i64 (d+1:Nat)) rfl;have o:=H0.bd.nchg K;obtain⟨m,G⟩:=H0.bd;refine⟨H',e,⟨b,H0.bt.mono K.prs.ok s H0.n1,H0.be.mono K.prs.ok s H0.n2,H0.bk.mono K.prs.ok s H0.n3,H0.bf.mono K.prs.ok s H0.n4,H0.bc.mono K.prs.ok s H0.n5,H0.eb,H0.fr,H0.n1,H0.n2,H0.n3,H0.n4,H0.n5⟩, ?_,s⟩;exact K.other s (fun e=>o (.inl e.symm)) (fun e=>o (.inr (.inl e.symm))) (fun j Bd e=>o (.inr (.inr (e▸Bd)))) (fun kv z j Bd e=>by
  subst e;obtain⟨I,C⟩:=K.pf.mem kv z;exact C.nblk G (.inl ⟨_,_,_,_,rfl,fun _ _ e=>by cases e⟩) Bd) (fun j Bd=>by rw[Bd];exact H0.fr)
variable {E:Ev}
theorem d6 {ks:List Str}(hl:p.leaf=false)(f:p.keys=ks)(key:Str):Nd.whereN p key=wY ks key:=by
 simp only[Nd.whereN,wY,hl,f,Bool.not_false,Bool.true_and]
theorem aK: ∀ {n a:Nat} {p:Ptr},p∈pps a n-> ∃j,p=pp j/\a<j/\j<=a+n
 | 0,_,_,h=>by simp[pps]at h
 | n+1,a,p,h=>by
  rcases zO.1 h with rfl | h
  .exact⟨a+1,rfl,by omega,by omega⟩
  .obtain⟨j,e,f,i⟩:=aK h;exact⟨j,e,by omega,by omega⟩
theorem JX: ∀(n a:Nat),(pps a n).Nodup
 | 0,_=>by simp[pps]
 | n+1,a=>by
  rw[pps,List.nodup_cons];refine⟨fun h=> ?_,JX n (a+1)⟩;obtain⟨j,e,f,_⟩:=aK h;have:=Y8 e;omega
def zHW (E:Ev)(X:Nat->Prop)(H0 H H':AH)(y z F K V:Nat)(ed:Ed)(M N O Q T B6 d:Nat)(q:PN)(f:PN)(g o:AV)(gl:List Ptr)(J m:Nat)(h:Nat)(lo hi:Bd)(t:Bt.Tr h)(S:List Ptr)(p:Ptr)(u:AV)(c':Kvs):Prop:=
 ∃L s v a d' x C G R Fr,∃i:Bt.Tr h,Ch X H0 H' y z F L s o v J a/\Cl H0 H' y z K V ed M N O Q T B6 d'/\xU X H' o u x/\wL (Qf E q s) h x i C/\WX h lo hi i/\con h i=c'/\(0<h->WP h t<=WP h i+1)/\v=gl++G/\G.length<=2*(h+1)/\
  m+Fr.length=a/\a<=m+6*h/\d'<=d+h+1/\C.Perm (Fr++R)/\(p::S).Perm (G++R)/\Fr.Nodup/\(∀p∈Fr,∃j,p=pp j/\m<j/\j<=a)/\(∀p I,Qf E q f p=some I->Qf E q s p=some I)/\ ∀B,Blk o B->Blk g B\/H.next<=B
theorem zEK{ed:Ed}{B6 d Y S I e7:Nat}{a0 G:Nat}
  (s:Ch X k F h v l H q t i a0 G) (cl:Cl k F h v B J ed L P R a c B6 d) (g7:F.h.get Y=some (.cells (jX C) e7 1 false)) (Z:F.h.get S=some (.cells [.bool false, .nS, .nS, .nS] 119 1 false)) (M:F.h.get I=some (.cells e 119 1 false))
  (hu:xU X F t (.agg e) p) (h8:k.next<=S) (a3:S≠v) (b4:Y≠v) (a4:I≠v) (hl:i.length+1<=G+1000) (hb:G<=900000000):
  ∃z H',cZ D n [.ptr B6 0, .ptr Y 0, .ptr S 0, .ptr I 0, .int .i64 (0:Nat)] F=some (.ret (.tuple [.agg e, .int .i64 (0:Nat)]),H')/\Ch X k H' h v l H q z (i++[C]) a0 G/\Cl k H' h v B J ed L P R a c B6 d/\xU X H' z (.agg e) p/\
   Stp (fun j=>chg v l t j\/j=S) F H'/\ ∀j,Blk z j->Blk t j\/F.next<=j:=by
 obtain⟨N,a6⟩:e.length=4/\jV e=true:=by
  obtain⟨_,_,Q,b⟩:=dH hu.1;exact⟨Q,b⟩
 obtain⟨z,a2,e1,O,T⟩:=zGc D n s C hl hb;have np: ∀ {A:Nat} {y:List AV} {W:Nat},F.h.get A=some (.cells y W 1 false)->A≠v-> ¬chg v l t A:=fun {A y W} u a7 hc=>by
  rcases hc with W | W | W
  .exact a7 W
  .rw[W,s.gF]at u;cases u
  .rw[s.gg.get W]at u;simp at u
 have lt: ∀ {A:Nat} {y:List AV} {W:Nat},F.h.get A=some (.cells y W 1 false)->A<F.next:=fun u=>s.prs.ok.lt u
 have H0:a2.h.get S=some (.cells [.bool false, .nS, .nS, .nS] 119 1 false):=by rw[T.1.keep _ (lt Z) (np Z a3)];exact Z
 have a5:a2.h.get I=some (.cells e 119 1 false):=by rw[T.1.keep _ (lt M) (np M a4)];exact M
 have a8:=s.next hu T
 have U:=cl.keep s T.1;obtain⟨K,e2,a9,V,n2⟩:=kE O.prs.ok H0 (l':=e) N a6;have b0:stN 4 (.ptr S 0) (.agg e) a2=some (jU,K):=e2;have b1:=O.stb H0 V h8 a3;have nb: ∀ {A:Nat} {x:AV},Box a2 A x->(∀b,x≠ .bool b)->A≠S:=fun {A x} hb hx W=>by
  obtain⟨_,hb⟩:=hb;rw[W,H0]at hb;simp at hb
 have b2:Cl k K h v B J ed L P R a c B6 d:=by
  have m: ∀ {A:Nat} {x:AV},Box a2 A x->Box K A x:=fun {A x} hb=>hb.mono O.prs.ok V (fun W=>by
   obtain⟨_,hb⟩:=hb;rw[W,H0]at hb;simp at hb)
  exact⟨m U.bd,m U.bt,m U.be,m U.bk,m U.bf,m U.bc,U.eb,U.fr,U.n1,U.n2,U.n3,U.n4,U.n5⟩
 refine⟨z,K, ?_,b1,b2,a8.stb H0 V,(T.1.mono fun _ _ x=> .inl x).trans (V.mono fun _ _ x=> .inr x),T.2⟩;have b3: ¬(((0:Nat):Int)≠((0:Nat):Int)):=by omega
 simp(maxSteps:=999999)(disch:=omega) only[cZ,eZ,b3,cl.bc.ld,jW g7,zIb,qA,e1,uG a5 N,b0,uG a9 N]
theorem zBD{B6 e:Nat}(x y:AV)(o:k.ok)(p:k.h.get h=some (.cells [.bool false, .nS, .nS, .nS] 119 1 false))(t:e≠0):
  ∃H',cZ D n [.ptr B6 0,x, .ptr h 0,y, .int .i64 (e:Nat)] k=some (.ret (.tuple [.agg [.bool false, .nS, .nS, .nS], .int .i64 (e:Nat)]),H')/\Stp (fun B=>B=h) k H':=by
 obtain⟨f,q,i,s,u⟩:=kE o p (l':=[.bool false, .nS, .nS, .nS]) rfl rfl;have j:stN 4 (.ptr h 0) (.agg [.bool false, .nS, .nS, .nS]) k=some (jU,f):=q;refine⟨f, ?_,s⟩;have m:(e:Int)≠((0:Nat):Int):=by omega
 simp(maxSteps:=999999)(disch:=omega) only[cZ,eZ,m,ne_eq,yQ,fQ,j,uG i rfl]
theorem zJk (M n a f h i j B6:Nat)(x:AV)(H:AH):callV [(76,f76 (dy (M+1)) n),(77,f77 (dy (M+1)) n),(79,f79 (dy (M+1)) n),(129,f129 (dy (M+1)) n),(130,f130 (dy (M+1)) n)] (dy (M+1)) (zEn a f h i j B6) [x] H=f128 (dy M) M [x, .ptr a 0, .ptr f 0, .ptr h 0, .ptr i 0, .ptr j 0, .ptr B6 0] H:=rfl
noncomputable def zMj (D:Dyn)(n:Nat)(U x4 V x6 f h a:AV)(H:AH):Rs:=
 bV (fAd 0 a) fun s=>
 bV (ld1 s H) fun t=>
 jn (cnd t (bV (ld1 U H) fun u=>
 bV (ldN 4 a H) fun v=>
 bR (callV [(76,f76 D n),(77,f77 D n),(79,f79 D n),(129,f129 D n),(130,f130 D n)] D u [v] H) fun i H=>
 bV (jS i 0) fun x=>
 bV (jS i 1) fun y=>
 bR (stN 4 a x H) fun _ H=>
 some (.norm [x6,f,h,a,y],H))
 (bV (ldN 4 a H) fun z=>
 bV (ld1 x4 H) fun C=>
 bR (f79 D n [z,C] H) fun j H=>
 bA (bxV 119 (.agg [(.bool false), .nS, .nS, .nS])) H fun m H=>
 bV (ld1 V H) fun F=>
 bV (fAd 3 a) fun G=>
 bV (ld1 G H) fun I=>
 bV (gY 3 I j) fun J=>
 bV (ldN 3 J H) fun K=>
 bR (callV [(76,f76 D n),(77,f77 D n),(79,f79 D n),(129,f129 D n),(130,f130 D n)] D F [K] H) fun o H=>
 bV (jS o 0) fun L=>
 bV (jS o 1) fun p=>
 bR (stN 4 m L H) fun _ H=>
 bV (kO .eql p (.int .i64 (.ofNat 0))) fun M=>
 jn (cnd M (bV (ld1 x6 H) fun N=>
 bV (ldN 4 a H) fun O=>
 bV (ldN 4 m H) fun Q=>
 bR (f129 D n [N,O,j,Q] H) fun q H=>
 bV (jS q 0) fun S=>
 bV (jS q 1) fun T=>
 bR (stN 4 a S H) fun _ H=>
 some (.norm [x6,f,h,a,T],H))
 (some (.norm [x6,f,h,a,p],H))) (YC D n))) (cZ D n)
theorem zAW (y n:Nat)(hn:200000000<=n){H0 H:AH}{z N F M0 K V:Nat}{ed:Ed}{s O C G I B6 d:Nat}{t:Ptr}{dk b4 dr:AV}{root:Ptr}{es:List (AV×AV)}{q fr:PN}{a2:List (AV×AV)}{g:AV}{gl:List Ptr}{U a1:Nat}{J:Nd.Node}(ti:TI E H0 z M0 dk b4 root es q U dr)(hold: ∀kv∈es,∀B,vV kv.2 B->B<H0.next)(b6: ∀kv∈es,∀B,vV kv.2 B-> ¬X B)
  (L:Ch X H0 H z N F a2 fr g gl U a1) (cl:Cl H0 H z N K V ed s O C G I B6 d) (hs:Qf E q [] t=some J) (hd:d+1<=8192):
  (E.bd/\ ∃l a,f128 (dy (y+1)) n [.agg (jX t), .ptr s 0, .ptr O 0, .ptr C 0, .ptr G 0, .ptr I 0, .ptr B6 0] H=some (.tuple [.agg l, .int .i64 (52:Nat)],a)/\Stp (fun B=>B=s) H a/\l.length=4/\jV l=true)\/ ∃lv o f j a,f128 (dy (y+1)) n [.agg (jX t), .ptr s 0, .ptr O 0, .ptr C 0, .ptr G 0, .ptr I 0, .ptr B6 0] H=fG (zMj (dy (y+1)) n (.ptr C 0) (.ptr G 0) (.ptr I 0) (.ptr B6 0) (.ptr o 0) (.ptr f 0) (.ptr j 0) a)/\
   Ch X H0 a z N F a2 fr g gl U a1/\Cl H0 a z N K V ed s O C G I B6 (d+1)/\xU X a g (.agg lv) J/\(∃r,lv= .bool J.leaf::r/\lv.length=4/\jV lv=true)/\
   a.h.get o=some (.cells (jX t) 42 1 false)/\a.h.get f=some (.cells [.bool false, .nS, .nS, .nS] 119 1 false)/\a.h.get j=some (.cells lv 119 1 false)/\
   H.next<=o/\H.next<=f/\H.next<=j/\o≠f/\o≠j/\f≠j/\Stp (fun B=>B=s) H a:=by
 obtain⟨H1,o,b1,Q,g1,m1,n1⟩:=box L.prs.ok (.cells (jX t) 42 1 false);obtain⟨H2,f,b2,p2,g2,m2,n2⟩:=box Q.ok (.cells [.bool false, .nS, .nS, .nS] 119 1 false);have S:=Q.trans p2;have b7:=L.step S;have W:=cl.prs L.prs.ok S;obtain⟨H3,e3,v,p,u⟩:=W.deeper b7;have a3:=ti.prs p.prs;have a0:=zFQ (dy (y+1)) n a3;have N1:=Q.next;have N2:=p2.next;have N3:=u.next
 have c8:s<H.next:=cl.bd.lt L.prs.ok
 have Y:H3.h.get o=some (.cells (jX t) 42 1 false):=by rw[u.keep _ (by omega) (by omega)];exact zOM p2 Q.ok g1
 have a4:H3.h.get f=some (.cells [.bool false, .nS, .nS, .nS] 119 1 false):=by rw[u.keep _ (by omega) (by omega)];exact g2
 obtain⟨lv,H4,re,e4,p4,⟨b8,b9⟩,c0⟩:=zBM y n hn a3 hs;have a5:(d:Int)+((1:Nat):Int)=((d+1:Nat):Int):=by omega
 have a6: ¬((8192+q.length:Nat):Int)< ((d+1:Nat):Int):=by omega
 have a7:aveq (.int .i64 (d+1:Nat)) (.int .i64 (d+1:Nat))=true:=by
  have:keq .i64 .i64=true:=by rw[xQ];simp
  simp only[aveq,this,Bool.true_and,xS];simp
 obtain⟨H5,j,b5,T,g5,m5,n5⟩:=box p4.ok (.cells [.bool false, .nS, .nS, .nS] 119 1 false);obtain⟨a,e6,g6,s6,n6⟩:=kE T.ok g5 (l':=lv) b8 b9;have a8:stN 4 (.ptr j 0) (.agg lv) H5=some (jU,a):=e6;have N4:=p4.next;have N5:=T.next
 have m:Prs H3 a:=(p4.trans T).fresh s6 (fun B i=>by omega);rcases c0 with⟨rfl,a9,M⟩ | ⟨rfl,c1⟩
 rotate_left
 .obtain⟨H7,e7,g7,s7,n7⟩:=kE m.ok (zOM m u.ok a4) (l':=[.bool false, .nS, .nS, .nS]) rfl rfl;have c2:stN 4 (.ptr f 0) (.agg [.bool false, .nS, .nS, .nS]) a=some (jU,H7):=e7;have t52:((52:Nat):Int)≠((0:Nat):Int):=by omega
  refine .inl ⟨c1,[.bool false, .nS, .nS, .nS],H7, ?_,⟨s7.ok,by have:=s7.next;omega,fun B i hS=> ?_⟩,rfl,rfl⟩
  .simp(maxSteps:=999999)(disch:=omega) only[f128,gH,zCQ,bVs,bRs,show ∀(e:TypeId) (l:List AV),bxV e (.agg l)=some (.cells l e 1 false,fun A=> .ptr A 0)from fun _ _=>rfl,b1,b2,W.bd.ld,Q4,wrap_i64,Int.ofNat_eq_natCast,a5,e3,v.bd.ld,v.bt.ld,a0,(fun K=>kY rfl a7: ∀K:Rs,chk (some (AV.int .i64 (d+1:Nat))) (.int .i64 (d+1:Nat)) K=K),B0,a6,decide_false,zCc,zM,qE,jW Y,zIb,qA,e4,jS,nth,b5,a8,UZ,t52,ne_eq,yQ,decide_true,if_true,fQ,c2,uG g7 rfl,eZ]
  .rw[s7.keep B (by omega) (by omega),m.keep B (by omega) (fun x=>x),u.keep B (by omega) hS,S.keep B i (fun x=>x)]
 refine .inr ?_;have b0:=p.step m;have Z:kN a (.agg lv) J:=(a9.prs T).stp s6 (fun B i e=>by
  subst e;have:=a9.lt i;omega)
 have c3:xU X a g (.agg lv) J:=by
  rcases M with⟨kk,M⟩ | b3
  .exact Z.hand b0 (fun B i=>hold _ M B i) (b6 _ M)
  .refine⟨Z,fun B i=>⟨fun hg=> ?_,fun hx=> ?_⟩⟩
   .have h1:=b3 B i;have h2:=zOR p.gg.row hg;omega
   .have h1:=b3 B i;have h2:=L.xo B hx;have h3:=p.prs.next
    omega
 obtain⟨r,c4,c5,c6⟩:=dH Z;refine⟨lv,o,f,j,a, ?_,b0,v.prs p.prs.ok m,c3,⟨r,c4,c5,c6⟩,zOM m p.prs.ok Y,zOM m p.prs.ok a4,g6,by omega,by omega,by omega,by omega,by omega,by omega,((S.mono fun _ _ x=>x.elim).trans u).trans (m.mono fun _ _ x=>x.elim)⟩;have c7: ¬(((0:Nat):Int)≠((0:Nat):Int)):=by omega
 simp(maxSteps:=999999)(disch:=omega) only[f128,gH,zCQ,bVs,bRs,show ∀(e:TypeId) (l:List AV),bxV e (.agg l)=some (.cells l e 1 false,fun A=> .ptr A 0)from fun _ _=>rfl,b1,b2,W.bd.ld,Q4,wrap_i64,Int.ofNat_eq_natCast,a5,e3,v.bd.ld,v.bt.ld,a0,(fun K=>kY rfl a7: ∀K:Rs,chk (some (AV.int .i64 (d+1:Nat))) (.int .i64 (d+1:Nat)) K=K),B0,a6,decide_false,zCc,zM,qE,jW Y,zIb,qA,e4,jS,nth,b5,a8,UZ,c7];rfl
theorem Cl.stb {H':AH}{ed:Ed}{q B6 d:Nat}(H0:Cl k F h v l B ed P R a c q B6 d)(t:F.ok)(u:F.h.get J=some (.cells e L 1 false))(hl:e.length=4)(s:Stp (fun H=>H=J) F H'):Cl k H' h v l B ed P R a c q B6 d:=by
 have m: ∀ {H:Nat} {x:AV},Box F H x->Box H' H x:=fun {H x} hb=>hb.mono t s (fun L=>by
  obtain⟨_,hb⟩:=hb;rw[L,u]at hb;simp only[zC,AObj.cells.injEq]at hb;rw[hb.1]at hl;simp at hl)
 exact⟨m H0.bd,m H0.bt,m H0.be,m H0.bk,m H0.bf,m H0.bc,H0.eb,H0.fr,H0.n1,H0.n2,H0.n3,H0.n4,H0.n5⟩
theorem zMi {ed:Ed}{B4 B5 B6:Nat}{root:Ptr}{c6:Nat}(ti:TI E k h J t G root H q c6 Q)(hold: ∀kv∈H,∀B,vV kv.2 B->B<k.next)(f8: ∀kv∈H,∀B,vV kv.2 B-> ¬X B)(hq: ∀s I,jZ s q=some I->s<=c6)(ho:ed.ok):
  ∀(H0 M n:Nat),200000000+H0<=M->200000000<=n-> ∀ {B3:AH} {d b1:Nat} {O:Ptr} {f9:List (AV×AV)} {f:PN} {g:AV} {gl:List Ptr} {I:Nd.Node} {V:Bt.Tr H0} {S:List Ptr} {lo hi:Bd},
   Ch X k B3 h v l f9 f g gl c6 b1->Cl k B3 h v L P ed R a c B4 B5 B6 d->Qf E q [] O=some I->wL (Qf E q []) H0 I V S->Gen H0 lo hi V->wM H0 V<=500->(0<H0->I.keys≠[])->zFT lo ed.key->hiB hi ed.key->d+H0+1<=8192->b1+6*H0<=600000000->gl.length+2*(H0+1)<=b1+1000->
   ∃u e g' H',f128 (dy (M+1)) n [.agg (jX O), .ptr R 0, .ptr a 0, .ptr c 0, .ptr B4 0, .ptr B5 0, .ptr B6 0] B3=some (.tuple [u, .int .i64 ((e:Nat):Int)],H')/\Stp (fun B=>chg v l g B\/B=R) B3 H'/\(∃Z,u= .agg Z/\Z.length=4/\jV Z=true)/\
    ((e=52/\E.bd)\/match ed.run (con H0 V)with
    | none=>e=5
    | some c'=>e=0/\zHW E X k B3 H' h v l L P ed R a c B4 B5 B6 d q f g g' gl c6 b1 H0 lo hi V S O u c'):=by
 intro H0
 induction H0 with
 | zero=>
  intro M n hM hn B3 d b1 O f9 f g gl I V S lo hi ch cl hs rn wg hz _ g0 g4 hd hb p4;obtain⟨rfl,rfl⟩:=rn;obtain⟨a4,l6,H6,e6,a5,g5,g6⟩ | ⟨lv,T,A8,z,H6,e6,At,b4,d8,⟨r,d9,a2,p5⟩,g7,g8,a9,m7,m8,p6,p9,m5,m6,a5⟩:=zAW M n hn ti hold f8 ch cl hs (by omega)
  .exact⟨.agg l6,52,g,H6,e6,a5.mono fun B _ H0=> .inr H0,⟨l6,rfl,g5,g6⟩, .inl ⟨rfl,a4⟩⟩
  have N0:=ch.prs.next;have q0:=ch.ltC;have N6:=a5.next
  have q5:wU (V:Kvs)<=10000:=by simp only[wM]at hz;omega
  obtain⟨u,H7,e7,_,U,w7⟩:=zGS M n (by omega) At.prs.ok d8.1 wg q5 ho (b4.eb.prs ti.ok At.prs);obtain⟨lu,rfl,q6,j0⟩:=w7.1.cells;have q7:=At.step U;have j4:=b4.prs At.prs.ok U;have c9:=zOM U At.prs.ok a9;obtain⟨H8,e8,b2,s8,n8⟩:=kE U.ok c9 (l':=lu) (by omega) j0;have q8:stN 4 (.ptr z 0) (.agg lu) H7=some (jU,H8):=by rw[a2]at e8;exact e8
  have c2:=j4.stb U.ok c9 a2 s8;have q9:xU X H7 g (.agg lu) (edL ed V).1:=vW.hand At (zP _) w7;rw[d9]at c9;have a6:=q7.stb c9 s8 (by omega) (by omega);have j5:=q9.stb c9 s8;have N7:=U.next;have N8:=s8.next
  have c3:H8.h.get T=some (.cells (jX O) 42 1 false):=by rw[s8.keep _ (by have:=At.prs.ok.lt g7;omega) (by omega)];exact zOM U At.prs.ok g7
  have b5:H8.h.get A8=some (.cells [.bool false, .nS, .nS, .nS] 119 1 false):=by rw[s8.keep _ (by have:=At.prs.ok.lt g8;omega) (by omega)];exact zOM U At.prs.ok g8
  have S8:Stp (fun B=>chg v l g B\/B=R) B3 H8:=⟨s8.ok,by omega,fun B m y=>by
   rw[s8.keep B (by omega) (by omega),U.keep B (by omega) (fun x=>x),a5.keep B m (fun e=>y (.inr e))]⟩
  have r0: ¬(((0:Nat):Int)≠((0:Nat):Int)):=by omega
  have r5:(leafOf (V:Kvs)).leaf=true:=rfl;have run: ∀ {x:Option (AV×AH)} {code:Nat},(edL ed V).2=code->fG (cZ (dy (M+1)) n [.ptr B6 0, .ptr T 0, .ptr A8 0, .ptr z 0, .int .i64 code] H8)=x->f128 (dy (M+1)) n [.agg (jX O), .ptr R 0, .ptr a 0, .ptr c 0, .ptr B4 0, .ptr B5 0, .ptr B6 0] B3=x:=by
   intro x code hc W;rw[hc]at e7;rw[e6];simp(maxSteps:=999999)(disch:=omega) only[zMj,eZ,jR a9,d9,r5,b4.be.ld];simp(maxSteps:=999999)(disch:=omega) only[eZ,uG a9 a2,e7,jS,nth,q8];exact W
  cases hr:ed.run V with
  | none=>
   have e0:edL ed V=(nd0,5):=by simp only[edL,hr]
   obtain⟨H9,e9,F⟩:=zBD (dy (M+1)) n (B6:=B6) (.ptr T 0) (.ptr z 0) a6.prs.ok b5 (e:=5) (by decide);refine⟨.agg [.bool false, .nS, .nS, .nS],5,g,H9,run (by rw[e0]) (by rw[e9];rfl),⟨F.ok,by have:=F.next;omega,fun B m y=>by rw[F.keep B (by omega) (by omega)];exact S8.keep B m y⟩,⟨_,rfl,rfl,rfl⟩, ?_⟩
   refine .inr ?_;simp only[con,hr]
  | some l'=>
   have e0:edL ed V=(leafOf l',0):=by simp only[edL,hr]
   rw[e0]at j5;obtain⟨g',H9,e9,g9,h1,r6,F,b9⟩:=zEK (dy (M+1)) n a6 c2 c3 b5 b2 j5 (by omega) (by omega) (by omega) (by omega) (by omega) (by omega);obtain⟨w1,w2⟩:=Ed.leaf wg g0 g4 ho hr;refine⟨.agg lu,0,g',H9,run (by rw[e0]) (by rw[e9];rfl),⟨F.ok,by have:=F.next;omega,fun B m y=> ?_⟩,⟨_,rfl,q6,j0⟩, ?_⟩
   .rw[F.keep B (by omega) (fun W=>by
     rcases W with W | W
     .exact y (.inl W)
     .omega)]
    exact S8.keep B m y
   .refine .inr ?_;simp only[con,hr];refine⟨trivial,_,_,_,_,_,_,[],[O],[],[],l',g9,h1,r6,⟨rfl,rfl⟩,⟨w1,by simp only[wM]at hz;omega⟩,rfl,fun hh=>absurd hh (by omega),rfl,by simp,by simp,by omega,by omega,by simp,by simp,by simp,by simp,fun _ _ hp=>hp,fun B m=> ?_⟩;rcases b9 B m with e | e
    .exact .inl e
    .exact .inr (by omega)
 | succ H0 ih=>
  intro M n hM hn B3 d b1 O f9 f g gl I V S lo hi ch cl hs rn wg hz d3 g0 g4 hd hb p4;obtain⟨r1,r2,r3,r4⟩:=rn;obtain⟨w1,w2,w3⟩:=id wg;have w5:=w3.len;have m1:=r4.len;obtain⟨a4,l6,H6,e6,a5,g5,g6⟩ | ⟨lv,T,A8,z,H6,e6,At,b4,d8,⟨r,d9,a2,p5⟩,g7,g8,a9,m7,m8,p6,p9,m5,m6,a5⟩:=zAW M n hn ti hold f8 ch cl hs (by omega)
  .exact⟨.agg l6,52,g,H6,e6,a5.mono fun B _ H0=> .inr H0,⟨l6,rfl,g5,g6⟩, .inl ⟨rfl,a4⟩⟩
  have N0:=ch.prs.next;have q0:=ch.ltC;have N6:=a5.next
  have r7:wX V.1 V.2.length<=500:=hz;have r8:small I:=xW (by
   have:Nd.size I=wM (H0+1) V:=wL.size (Q:=Qf E q []) (S:=S) ⟨r1,r2,r3,r4⟩;rw[this];simp only[wM];omega)
  have j6:Nd.whereN I ed.key=wY V.1 ed.key:=d6 r1 r2 _;have m9:wY V.1 ed.key<=V.1.length:=JF _ _;have j7:wY V.1 ed.key<V.2.length:=by omega
  obtain⟨sA,sB⟩:=JD (key:=ed.key) (ks:=V.1) (ts:=V.2) wg;have j8:=VK (lo:=lo) w2 g0;have j9:=VL (hi:=hi) w2 g4;generalize w4:wY V.1 ed.key=i at j6 m9 j7 sA sB j8 j9;have e2:=zK j7;obtain⟨pk,r9,Sa,Si,Sb,k1,k2,k3,k4,k5,k6⟩:=r4.at e2;have s0:=k2;have wk:=KB.at w3 e2;have s1:0<H0->r9.keys≠[]:=fun hh=>by
   cases H0 with
   | zero=>omega
   | succ H0=>
    have:=ZI wk;rw[k3.2.1];intro e;rw[e]at this;simp at this
  obtain⟨H7,e7,U⟩:=YR (dy (M+1)) n hn At.prs.ok (key:=ed.key) d8.1.node r8;rw[j6]at e7;obtain⟨H8,h2,b8,p8,k0,x3,s2⟩:=box U.ok (.cells [.bool false, .nS, .nS, .nS] 119 1 false);have b6:=U.trans p8;have a6:=At.step b6;have c2:=b4.prs At.prs.ok b6;have j4:=b4.prs At.prs.ok U;have a7:=d8.prs b6;have c3:=zOM b6 At.prs.ok g7;have b5:=zOM b6 At.prs.ok g8;have b2:=zOM b6 At.prs.ok a9;obtain⟨ks,s3,ps,k7,j1,j2,j3⟩:=id a7.1;simp only[AV.agg.injEq]at k7;obtain⟨qk,ik,k8⟩:=bY.at (l:=I.kids) j3.row (i:=i) (by omega);have s4:I.kids[i]'(by omega)=pk:=by
   rw[zK (by omega)]at k1;exact yG k1
  rw[s4]at k8;have N7:=U.next;have N8:=p8.next
  obtain⟨M0,rfl⟩: ∃M0,M=M0+1:=⟨M - 1,by omega⟩;obtain⟨u1,e1,g1,H9,e9,F,⟨l1,rfl,h4,s5⟩,a8⟩:=ih M0 (M0+1) (by omega) (by omega) a6 c2 s0 k3 wk.gen wk.sz s1 j8 j9 (by omega) (by omega) (by omega);have c4: ∀ {A:Nat} {o:AObj},H8.h.get A=some o->A<H8.next:=fun N=>a6.prs.ok.lt N
  have np: ∀ {A:Nat} {Z:List AV} {e:Nat},H8.h.get A=some (.cells Z e 1 false)->Z.length≠1->A≠v-> ¬(chg v l g A\/A=R):=fun {A Z e} N hl d3 hc=>by
   rcases hc with(e | e | e) | e
   .exact d3 e
   .rw[e,a6.gF]at N;cases N
   .rw[a6.gg.get e]at N;simp at N
   .obtain⟨_,hb⟩:=c2.bd;rw[e,hb]at N;simp only[zC,AObj.cells.injEq]at N;rw[<-N.1]at hl;simp at hl
  have s6:lv.length≠1:=by omega
  have s7:H9.h.get T=some (.cells (jX O) 42 1 false):=by rw[F.keep _ (c4 c3) (np c3 (by simp[jX]) (by omega))];exact c3
  have t0:H9.h.get A8=some (.cells [.bool false, .nS, .nS, .nS] 119 1 false):=by rw[F.keep _ (c4 b5) (np b5 (by simp) (by omega))];exact b5
  have n0:H9.h.get z=some (.cells lv 119 1 false):=by rw[F.keep _ (c4 b2) (np b2 s6 (by omega))];exact b2
  have d0:H9.h.get h2=some (.cells [.bool false, .nS, .nS, .nS] 119 1 false):=by rw[F.keep _ s2 (np k0 (by simp) (by omega))];exact k0
  obtain⟨a1,t3,h8,Y,x4⟩:=kE F.ok d0 (l':=l1) h4 s5;have n1:stN 4 (.ptr h2 0) (.agg l1) H9=some (jU,a1):=t3;have N9:=F.next;have x5:=Y.next
  have t7:=c4 c3;have t8:=c4 b5;have t10:=c4 b2;have x6:At.prs.ok.lt g7=At.prs.ok.lt g7:=rfl;have u7:=At.prs.ok.lt g7;have u8:=At.prs.ok.lt g8;have x7:=At.prs.ok.lt a9;have i3:a1.h.get T=some (.cells (jX O) 42 1 false):=by rw[Y.keep _ (by omega) (by omega)];exact s7
  have d2:a1.h.get A8=some (.cells [.bool false, .nS, .nS, .nS] 119 1 false):=by rw[Y.keep _ (by omega) (by omega)];exact t0
  have c7:a1.h.get z=some (.cells lv 119 1 false):=by rw[Y.keep _ (by omega) (by omega)];exact n0
  have e3:Stp (fun B=>chg v l g B\/B=R) B3 a1:=⟨Y.ok,by omega,fun B m y=>by
   rw[Y.keep B (by omega) (by omega),F.keep B (by omega) y,b6.keep B (by omega) (fun x=>x),a5.keep B m (fun e=>y (.inr e))]⟩
  have b3:=Ed.run_mid ed (A:=(V.2.take i).flatMap (con H0)) (C:=con H0 V.2[i]) (B:=(V.2.drop (i+1)).flatMap (con H0)) sA sB;have n2:con (H0+1) V=(V.2.take i).flatMap (con H0)++con H0 V.2[i]++(V.2.drop (i+1)).flatMap (con H0):=by
   have:V.2=V.2.take i++[V.2[i]]++V.2.drop (i+1):=VU e2;simp only[con]
   conv=>lhs;rw[this]
   simp only[jK,qL,List.flatMap_nil,qW]
  rw[<-n2]at b3;have r0: ¬(((0:Nat):Int)≠((0:Nat):Int)):=by omega
  have k9:lv=[.bool I.leaf,ks,s3,ps]:=k7;have head: ∀ {x:Option (AV×AH)},fG (jn (bV (kO .eql (.int .i64 e1) (.int .i64 (.ofNat 0))) fun t4=>jn (cnd t4 (bV (ld1 (.ptr B6 0) a1) fun t5=>bV (ldN 4 (.ptr z 0) a1) fun t6=>bV (ldN 4 (.ptr h2 0) a1) fun t9=>bR (f129 (dy (M0+1+1)) n [t5,t6, .int .i64 (i:Nat),t9] a1) fun l0 B3=>
    bV (jS l0 0) fun u0=>bV (jS l0 1) fun u3=>bR (stN 4 (.ptr z 0) u0 B3) fun _ B3=>some (.norm [.ptr B6 0, .ptr T 0, .ptr A8 0, .ptr z 0,u3],B3)) (some (.norm [.ptr B6 0, .ptr T 0, .ptr A8 0, .ptr z 0, .int .i64 e1],a1))) (YC (dy (M0+1+1)) n)) (cZ (dy (M0+1+1)) n))=x->
    f128 (dy (M0+1+1)) n [.agg (jX O), .ptr R 0, .ptr a 0, .ptr c 0, .ptr B4 0, .ptr B5 0, .ptr B6 0] B3=x:=by
   intro x W;rw[e6,<-W];have h0:ld1 (.ptr z 0) H6=some (.bool false):=by rw[jR a9,k9,r1];rfl
   have h3:ld1 (.ptr z 3) H8=some ps:=by rw[jR b2,k9];rfl
   simp(maxSteps:=999999)(disch:=omega) only[zMj,eZ,h0,uG a9 a2,b4.bk.ld,e7,b8,c2.bf.ld,h3,ik,k8,zJk,e9,jS,nth,n1]
  have i4: ∀ {H':AH},f128 (dy (M0+1+1)) n [.agg (jX O), .ptr R 0, .ptr a 0, .ptr c 0, .ptr B4 0, .ptr B5 0, .ptr B6 0] B3=fG (cZ (dy (M0+1+1)) n [.ptr B6 0, .ptr T 0, .ptr A8 0, .ptr z 0, .int .i64 (52:Nat)] H')->Stp (fun B=>chg v l g B\/B=R) B3 H'->H'.h.get A8=some (.cells [.bool false, .nS, .nS, .nS] 119 1 false)->E.bd-> ∃u e g' H',f128 (dy (M0+1+1)) n [.agg (jX O), .ptr R 0, .ptr a 0, .ptr c 0, .ptr B4 0, .ptr B5 0, .ptr B6 0] B3=some (.tuple [u, .int .i64 ((e:Nat):Int)],H')/\Stp (fun B=>chg v l g B\/B=R) B3 H'/\(∃Z,u= .agg Z/\Z.length=4/\jV Z=true)/\
    ((e=52/\E.bd)\/match ed.run (con (H0+1) V)with
    | none=>e=5
    | some c'=>e=0/\zHW E X k B3 H' h v l L P ed R a c B4 B5 B6 d q f g g' gl c6 b1 (H0+1) lo hi V S O u c'):=by
   intro H' W sx gx a4;obtain⟨a3,b7,c0⟩:=zBD (dy (M0+1+1)) n (B6:=B6) (.ptr T 0) (.ptr z 0) sx.ok gx (e:=52) (by decide);have:=sx.next
   refine⟨.agg [.bool false, .nS, .nS, .nS],52,g,a3,by rw[W,b7];rfl,⟨c0.ok,by have:=c0.next;omega,fun B m y=>by rw[c0.keep B (by omega) (by omega)];exact sx.keep B m y⟩,⟨_,rfl,rfl,rfl⟩, .inl ⟨rfl,a4⟩⟩
  rcases a8 with⟨rfl,a4⟩ | a8
  .have n3: ¬((52:Nat):Int)=((0:Nat):Int):=by omega
   refine i4 (head ?_) e3 d2 a4;simp(maxSteps:=999999)(disch:=omega) only[eZ,n3,YC]
  cases hr:ed.run (con H0 V.2[i])with
  | none=>
   rw[hr]at a8 b3;simp only[Option.map_none]at b3;have a8:e1=5:=a8;subst a8;obtain⟨a3,b7,c0⟩:=zBD (dy (M0+1+1)) n (B6:=B6) (.ptr T 0) (.ptr z 0) Y.ok d2 (e:=5) (by decide);have u4: ¬((5:Nat):Int)=((0:Nat):Int):=by omega
   refine⟨.agg [.bool false, .nS, .nS, .nS],5,g,a3,head ?_,⟨c0.ok,by have:=c0.next;omega,fun B m y=>by rw[c0.keep B (by omega) (by omega)];exact e3.keep B m y⟩,⟨_,rfl,rfl,rfl⟩, ?_⟩
   .simp(maxSteps:=999999)(disch:=omega) only[eZ,u4,YC,b7]
   .refine .inr ?_;rw[b3]
  | some c1=>
   rw[hr]at a8 b3;simp only[qA]at b3;obtain⟨rfl,w6,f1,l3,h9,d1,u5,S1,G1,R1,u6,t1,g9,h1,u9,l4,v0,n4,v1,i5,x8,x9,w8,y0,l5,i6,n5,l7,m2,h5⟩:=a8;have d7:=g9.stb d0 Y (by omega) (by omega);have f3:=h1.stb F.ok d0 rfl Y;have n6:=u9.stb d0 Y;have v2:xU X H9 g1 (.agg lv) I:=⟨a7.1.stp F (fun B m hc=>by
    rcases hc with(e | e | e) | e
    .subst e;exact a7.1.nblk a6.gC (.inl ⟨_,_,_,_,rfl,fun _ _ e=>by cases e⟩) m
    .subst e;exact a7.1.nblk a6.gF (.inr (.inl ⟨_,_,rfl⟩)) m
    .exact(a7.2 B m).1 e
    .obtain⟨_,hb⟩:=c2.bd;subst e;exact a7.1.nblk hb (.inl ⟨_,_,_,_,rfl,fun _ _ e=>by cases e⟩) m),fun B m=>⟨fun N=>by
    rcases h5 B N with e | e
    .exact(a7.2 B m).1 e
    .have:=a7.1.lt m;omega,(a7.2 B m).2⟩⟩
   have n7:=v2.stb d0 Y;have n9:0<H0->u5.keys≠[]:=fun hh=>by
    have h6:=v1 hh
    cases H0 with
    | zero=>omega
    | succ H0=>
     have:=ZI wk;simp only[WP]at h6;rw[l4.2.1];intro e;rw[e]at h6;simp at h6;omega
   have w9:l3.length=gl.length+G1.length:=by rw[i5,zV]
   obtain⟨a4,l2,a3,b7,d4,l8,e4⟩ | ⟨u2,a3,o0,f2,g2,l9,i0,v3,t2,S2,G2,R2,b7,f4,b0,i7,o1,v4,m3,y1,k11,y2,y3,i8,m0,i9,m4,y4⟩:=zE4 (M0+1) n hn ti hold f8 hq d7 n7 n6 r1 r2 r3 m1 wg (by rw[<-r2];exact d3 (by omega)) r7 e2 k4 k5 l4 v0 n9 (by omega) (by omega)
   .have c8:=zOM d4 Y.ok c7;obtain⟨c5,d5,i1,a0,v5⟩:=kE d4.ok c8 (l':=l2) (by omega) e4;have f5:stN 4 (.ptr z 0) (.agg l2) a3=some (jU,c5):=by rw[a2]at d5;exact d5
    have f6:=zOM d4 Y.ok d2;have v6:=d4.next;have v7:=a0.next
    refine i4 (head (x:=fG (cZ (dy (M0+1+1)) n [.ptr B6 0, .ptr T 0, .ptr A8 0, .ptr z 0, .int .i64 (52:Nat)] c5)) ?_) ⟨a0.ok,by omega,fun B m y=> ?_⟩ (by rw[a0.keep _ (by omega) (by omega)];exact f6) a4
    .simp(maxSteps:=999999)(disch:=omega) only[eZ,f3.bc.ld,uG c7 a2,uG h8 h4,b7,jS,nth,f5,YC]
    .rw[a0.keep B (by omega) (by omega),d4.keep B (by omega) (fun x=>x)];exact e3.keep B m y
   obtain⟨l2,rfl,l8,e4⟩:=i7.1.cells;have f7: ∀ {A:Nat} {Z:List AV} {e:Nat},a1.h.get A=some (.cells Z e 1 false)->A≠v-> ¬chg v l g1 A:=fun {A Z e} N d3 hc=>by
    rcases hc with e | e | e
    .exact d3 e
    .rw[e,d7.gF]at N;cases N
    .rw[d7.gg.get e]at N;simp at N
   have v6:=b0.1.next
   have o2:a3.h.get T=some (.cells (jX O) 42 1 false):=by rw[b0.1.keep _ (by omega) (f7 i3 (by omega))];exact i3
   have f6:a3.h.get A8=some (.cells [.bool false, .nS, .nS, .nS] 119 1 false):=by rw[b0.1.keep _ (by omega) (f7 d2 (by omega))];exact d2
   have c8:a3.h.get z=some (.cells lv 119 1 false):=by rw[b0.1.keep _ (by omega) (f7 c7 (by omega))];exact c7
   obtain⟨c5,d5,i1,a0,v5⟩:=kE f4.prs.ok c8 (l':=l2) (by omega) e4;have f5:stN 4 (.ptr z 0) (.agg l2) a3=some (jU,c5):=by rw[a2]at d5;exact d5
   have o3:=f3.keep d7 b0.1;have o4:=o3.stb f4.prs.ok c8 a2 a0;have e5:=c8;rw[d9]at e5;have o5:=f4.stb e5 a0 (by omega) (by omega);have o6:=i7.stb e5 a0;have v7:=a0.next
   have o7:c5.h.get T=some (.cells (jX O) 42 1 false):=by rw[a0.keep _ (by omega) (by omega)];exact o2
   have o8:c5.h.get A8=some (.cells [.bool false, .nS, .nS, .nS] 119 1 false):=by rw[a0.keep _ (by omega) (by omega)];exact f6
   have x0:l9.length=l3.length+G2.length:=by rw[i8,zV]
   obtain⟨g3,v8,v9,o9,p1,p2,h7,w0⟩:=zEK (dy (M0+1+1)) n o5 o4 o7 o8 i1 o6 (by omega) (by omega) (by omega) (by omega) (by omega) (by omega);have i2: ∀B,Blk g2 B->Blk g B\/H8.next<=B:=fun B m=>by
    rcases b0.2 B m with e | e
    .exact h5 B e
    .exact .inr (by omega)
   refine⟨.agg l2,0,g3,v8,head ?_,⟨h7.ok,by have:=h7.next;omega,fun B m y=> ?_⟩,⟨_,rfl,l8,e4⟩, ?_⟩
   .simp(maxSteps:=999999)(disch:=omega) only[eZ,f3.bc.ld,uG c7 a2,uG h8 h4,b7,jS,nth,f5,YC,v9]
   .rw[h7.keep B (by omega) (fun W=>by
     rcases W with(e | e | e) | e
     .exact y (.inl (.inl e))
     .exact y (.inl (.inr (.inl e)))
     .rcases i2 B e with e | e
      .exact y (.inl (.inr (.inr e)))
      .omega
     .omega),a0.keep B (by omega) (by omega),b0.1.keep B (by omega) (fun W=>by
     rcases W with e | e | e
     .exact y (.inl (.inl e))
     .exact y (.inl (.inr (.inl e)))
     .rcases h5 B e with e | e
      .exact y (.inl (.inr (.inr e)))
      .omega)]
    exact e3.keep B m y
   .refine .inr ?_;rw[b3];refine⟨rfl,o0,f2,l9++[O],i0,d1,v3,S2,G1++G2++[O],R2++R1,pps h9 (i0 - h9)++u6,t2,o9,p1,p2,o1,⟨v4,by omega⟩,by rw[m3,n4],fun _=>by simp only[WP];exact k11,by rw[i8,i5];simp,by simp;omega,by rw[zV,dD];omega,by omega,by omega, ?_, ?_, ?_, ?_,fun p I hp=>m4 p I (m2 p I hp),fun B m=> ?_⟩
    .rw[List.perm_iff_count]at l5 m0⊢;intro K;have x1:=l5 K;have x2:=m0 K;simp only[List.count_append]at x1 x2⊢;omega
    .rw[k6];rw[List.perm_iff_count]at i6 i9⊢;intro K;have x1:=i6 K;have x2:=i9 K;simp only[List.count_append,List.count_cons,List.count_nil]at x1 x2⊢;omega
    .rw[List.nodup_append];refine⟨JX _ _,n5,fun K ha b hb e=> ?_⟩;obtain⟨j,rfl,q1,q2⟩:=aK ha;obtain⟨j',e',q3,q4⟩:=l7 b hb;rw[e']at e;have:=Y8 e;omega
    .intro p hp;rcases qB.1 hp with hp | hp
     .obtain⟨j,rfl,q1,q2⟩:=aK hp;exact⟨j,rfl,by omega,by omega⟩
     .obtain⟨j,rfl,q1,q2⟩:=l7 p hp;exact⟨j,rfl,by omega,by omega⟩
    .rcases w0 B m with e | e
     .rcases i2 B e with e | e
      .exact .inl e
      .exact .inr (by omega)
     .exact .inr (by omega)
end Go.Eng.Sh
end
section
namespace Go.Eng
theorem zD2 {t:T AObj} : ∀(n A:Nat),(∀C,A<=C->t.get C=none)->zEg t A n=true
 | 0,_,_=>rfl
 | n+1,A,h=>by
  simp only[zEg,h A (zP _),kI];exact zD2 n _ fun C a=>h C (by simp only[Nat.succ_eq_add_one]at a;omega)
theorem zCq: ∀ {l e:List (AV×AV)},(∀x∈l,vB x.1 e=none)->l.Pairwise (fun a b=>aveq b.1 a.1=false)->WW e l=e++l
 | [],e,_,_=>by simp[WW]
 | x::l,e,h,hp=>by
  rw[yP]at hp;have f:ups e x=e++[x]:=by
   obtain⟨k,v⟩:=x;simp only[ups,Sh.setA_none (h (k,v) (zJ ..))]
  have j: ∀ {k:AV} {a b:List (AV×AV)},vB k a=none->vB k b=none->vB k (a++b)=none:=by
   intro k a b
   induction a with
   | nil=>intro _ h;exact h
   | cons c a ih=>
    intro f m;simp only[qF,vB]at f⊢
    cases e:aveq k c.1 with
    | true=>rw[e]at f;cases f
    | false=>rw[e]at f;simp only[yM]at f⊢;exact ih f m
  simp only[WW,f];rw[zCq (l:=l) (fun y i=>j (h y (zE _ i)) (by
   simp only[vB,hp.1 y i,yM])) hp.2]
  simp
end Go.Eng
namespace Go.Eng.Sh
open Go.Nd (Ptr sumL)
open Go.Bt
def gI:PN->List Ptr->PN
 | q,[]=>q
 | q,p::gl=>gI (if p.at_=1 then zB1 p.sum.toNat q else q) gl
theorem QY: ∀(gl:List Ptr) (q:PN) (p:Ptr),gI q (gl++[p])=if p.at_=1 then zB1 p.sum.toNat (gI q gl)else gI q gl
 | [],_,_=>rfl
 | _::gl,q,p=>by simp only[qF,gI,QY gl]
theorem zDn (s:Nat): ∀q:PN,(zB1 s q).length<=q.length
 | []=>zP _
 | (t,n)::q=>by
  simp only[zB1];split
  .simp
  .have:=zDn s q;simp;omega
theorem zDm (s:Nat): ∀ {q:PN} {x:Nat×Nd.Node},x∈zB1 s q->x∈q
 | [],_,h=>h
 | (t,n)::q,x,h=>by
  simp only[zB1]at h;split at h
  .exact zE _ h
  .rcases zO.1 h with h | h
   .exact h▸zJ ..
   .exact zE _ (zDm s h)
theorem K8 {s t:Nat}(h:s≠t): ∀q:PN,jZ s (zB1 t q)=jZ s q
 | []=>rfl
 | (a,n)::q=>by
  simp only[zB1];split
  .rename_i e;simp only[jZ];rw[if_neg (fun f=>h (f.symm.trans e))]
  .simp only[jZ,K8 h q]
theorem KX {s:Nat} : ∀ {q:PN},jZ s q=none->zB1 s q=q
 | [],_=>rfl
 | (a,n)::q,h=>by
  simp only[jZ]at h;split at h
  .cases h
  .rename_i e;simp only[zB1,if_neg e,KX h]
theorem KW {H:AH}{s:Nat} : ∀ {es:List (AV×AV)} {q:PN},uH H es q->jZ s q=none->zH1 (.int .u64 (s:Nat)) es=none
 | [],[],_,_=>rfl
 | (k,v)::es,(t,nd)::q,h,hl=>by
  obtain⟨⟨rfl,_⟩,a⟩:=h;simp only[jZ]at hl;split at hl
  .cases hl
  .rename_i e;have f: ¬s=t:=fun h=>e h.symm
   simp only[zH1,zJv,f,decide_false,yM,KW a hl]
 | [],_::_,h,_=>h.elim
 | _::_,[],h,_=>h.elim
theorem V5 {s:Nat} : ∀ {gl:List Ptr} {q:PN},(∀p∈gl,p.at_=1->s≠p.sum.toNat)->jZ s (gI q gl)=jZ s q
 | [],_,_=>rfl
 | p::gl,q,h=>by
  rw[gI,V5 fun p hp=>h p (zE _ hp)];by_cases e:p.at_=1
  .rw[if_pos e,K8 (h p (zJ ..) e)]
  .rw[if_neg e]
theorem ZW: ∀ {gl:List Ptr} {q:PN} {x:Nat×Nd.Node},x∈gI q gl->x∈q
 | [],_,_,h=>h
 | p::gl,_,_,h=>by
  have a:=ZW (gl:=gl) h;split at a
  .exact zDm _ a
  .exact a
theorem ZX: ∀(gl:List Ptr) (q:PN),(gI q gl).length<=q.length
 | [],_=>zP _
 | p::gl,q=>by
  refine qR (ZX gl _) ?_;split
  .exact zDn _ q
  .exact zP _
theorem v7 {s:Nat}{a:Nd.Node} : ∀ {q:PN},jZ s q=some a->(s,a)∈q
 | [],h=>by cases h
 | (t,n)::q,h=>by
  simp only[jZ]at h;split at h
  .rename_i e;subst e;simp only[zC]at h;subst h;exact zJ ..
  .exact zE _ (v7 h)
theorem uH.keys {H:AH} : ∀ {es:List (AV×AV)} {q:PN},uH H es q-> ∀kv∈es,∃s,kv.1= .int .u64 ((s:Nat):Int)/\s∈q.map Prod.fst
 | [],[],_,_,h=>by simp at h
 | (k,v)::es,(t,nd)::q,hq,kv,a=>by
  rcases zO.1 a with rfl | a
  .exact⟨t,hq.1.1,by simp⟩
  .obtain⟨s,f,i⟩:=uH.keys hq.2 kv a;exact⟨s,f,zE _ i⟩
 | [],_::_,h,_,_=>h.elim
 | _::_,[],h,_,_=>h.elim
theorem uH.dist {H:AH} : ∀ {es:List (AV×AV)} {q:PN},uH H es q->(q.map Prod.fst).Nodup->es.Pairwise (fun a b=>aveq b.1 a.1=false)
 | [],[],_,_=>List.Pairwise.nil
 | (k,v)::es,(t,nd)::q,hq,hd=>by
  simp only[yK,List.nodup_cons]at hd;rw[yP];refine⟨fun kv f=> ?_,uH.dist hq.2 hd.2⟩;obtain⟨s,i,j⟩:=uH.keys hq.2 kv f;rw[i,hq.1.1,zJv,yU];intro e;subst e;exact hd.1 j
 | [],_::_,h,_=>h.elim
 | _::_,[],h,_=>h.elim
theorem uH.append {H:AH}{es':List (AV×AV)}{a:PN}(f:uH H es' a): ∀ {es:List (AV×AV)} {q:PN},uH H es q->uH H (es++es') (q++a)
 | [],[],_=>f
 | _::es,_::q,h=>⟨h.1,uH.append f h.2⟩
 | [],_::_,h=>h.elim
 | _::_,[],h=>h.elim
theorem uH.isAg {H:AH}{es:List (AV×AV)}{q:PN}(h:uH H es q):es.all (fun e=>xP [10] e.1&&Eng.isAg 4 e.2)=true:=by
 rw[yC];intro kv a;obtain⟨s,f,_⟩:=h.keys kv a;obtain⟨p,i⟩:=h.mem kv a;obtain⟨l,j,m,o⟩:=i.cells;rw[f,j,zNE,Bool.true_and];simp only[Eng.isAg,kG,m,o,yO,qO]
noncomputable def AH.putB (H:AH)(A:Nat)(o:AObj)(k:Nat):AH:=⟨(H.put A o).h,H.next+k⟩
theorem zIu (i:k.ok)(m:h<k.next)(o:AObj)(H:Nat):Stp (fun B=>B=h) k (AH.putB k h o H)/\(AH.putB k h o H).h.get h=some o:=by
 have a: ∀B,(AH.putB k h o H).h.get B=if B=h then some o else k.h.get B:=fun B=>zOF k h o B
 refine⟨⟨fun B f=> ?_, ?_,fun B _ j=> ?_⟩, ?_⟩
 .have f:k.next+H<=B:=f
  rw[a,if_neg (by omega)];exact i B (by omega)
 .show k.next<=k.next+H;omega
 .rw[a,if_neg j]
 .rw[a,if_pos rfl]
theorem zI4 (j:k.ok)(m:k.h.get h=some (.map [10] H))(o:k.h.get v=some (.map [10] s))(i:h≠v)(hp:uH k H q):
  zKR [10] 1 (isAg 4) (.map h) (.map v) k=some (AH.putB k v (.map [10] (WW s H)) (1+1*H.length)):=by
 have hb:Nat.beq h v=false:=by rw[yA];intro F;exact i (Nat.eq_of_beq_eq_true F)
 simp only[zKR,m,o,show YO [10] [10]=true from rfl,hb,hp.isAg,Bool.not_false,qO,zU,kI,zD2 _ _ j,wR,AH.putB,zOD,Nat.add_assoc]
variable {E:Ev}
def Ev.drop (E:Ev)(gl:List Ptr):Ev:=⟨E.nb,E.ws,E.dl++gl.filter fun p=>decide (p.at_≠1),E.x,E.bd⟩
theorem zDi (E:Ev)(gl:List Ptr):(E.drop gl).dl.length<=E.dl.length+gl.length:=by
 simp only[Ev.drop,zV];have:=List.length_filter_le (fun p:Ptr=>decide (p.at_≠1)) gl;omega
theorem TI.dks (H':TI E k h v t G C H q l Q)(s:Stp w k F)(i: ∀B,w B->B=h\/B=v\/Blk Q B\/k.next<=B): ∃Ad j m o p f,t= .ptr Ad 0/\DkI F Ad E.nb f j m o p/\zJM E f:=by
 obtain⟨Ad,j,m,o,p,f,rfl,hd,y⟩:=H'.dk;have M: ∀ {B:Nat} {ks:List Nat} {x:List (AV×AV)},ks≠[10]->k.h.get B=some (.map ks x)-> ¬w B:=fun {B ks x} z g a=>by
  rcases i B a with e | e | e | e
  .rw[e,H'.gT]at g;cases g
  .rw[e,H'.gM]at g;simp only[zC,AObj.map.injEq]at g;exact z g.1.symm
  .exact zON H'.dg g (fun _ _ e=>by cases e) e
  .have:=H'.ok.lt g;omega
 refine⟨Ad,j,m,o,p,f,rfl,hd.stp H'.ok s (fun a=> ?_) (M (by decide) hd.gO) (M (by decide) hd.gN) (fun B S a=> ?_),y⟩
 .rcases i Ad a with e | e | e | e
  .have g:=hd.gD;rw[e,H'.gT]at g;simp[wQ]at g
  .have g:=hd.gD;rw[e,H'.gM]at g;cases g
  .exact zON H'.dg hd.gD (fun _ _ e=>by simp at e) e
  .have:=H'.ok.lt hd.gD;omega
 .have g:=hd.ow.get S;rcases i B a with e | e | e | e
  .rw[e,H'.gT]at g;simp at g
  .rw[e,H'.gM]at g;cases g
  .exact zON H'.dg g (fun _ _ e=>by simp at e) e
  .have:=H'.ok.lt g;omega
theorem zO9 {s:Nat}(f:k.ok)(a:k.h.get h=some (.map [10] H))(hp:uH k H q):
  ∃es' H',dlM [10] (.map h) (.int .u64 (s:Nat)) k=some (.tuple [],H')/\H'.h.get h=some (.map [10] es')/\uH H' es' (zB1 s q)/\Stp (fun B=>B=h) k H'/\ ∀kv∈es',kv∈H:=by
 cases hl:jZ s q with
 | none=>
  refine⟨H,k, ?_,a,by rw[KX hl];exact hp,zOJ f,fun _ M=>M⟩;simp only[dlM,zNE,a,show YO [10] [10]=true from rfl,zU,KW hp hl]
 | some nd=>
  obtain⟨es',m,o,p⟩:=hp.del s nd hl;have i:Stp (fun B=>B=h) k (k.put h (.map [10] es')):=(zOJ f).put (f.lt a) _ (.inr rfl);refine⟨es',k.put h (.map [10] es'), ?_,by rw[zOF,if_pos rfl],o.frame fun kv u v j=>j.stp i fun B t e=> ?_,i,p⟩
  .simp only[dlM,zNE,a,show YO [10] [10]=true from rfl,zU,m,wR]
  .subst e;exact j.nblk a (.inr (.inl ⟨_,_,rfl⟩)) t
theorem KK {α:Type}(f:α->Bool)(l:List α)(a:α):(l++[a]).filter f=l.filter f++(if f a then[a]else[]):=by
 rw[jN];cases h:f a<;>simp[h]
theorem zGY{root:Ptr}(c:TI E k h B t G C H q J Q)(hq: ∀es gl,jZ es q=some gl->es<=J)
  (y:Ch (XE E Q) k F h v l s N Y i J L) (g8: ∀p∈i,0<=p.sum) (hl:L<=900000000) (z:i.length<n) (j7:q.length<=J) (j8:E.dl.length+i.length<=900000000):
  ∃H' es' c7,f126 D n [.ptr v 0, .agg (jX root)] F=some (.tuple [],H')/\TI (E.drop i) H' h B t G root es' (gI q i++N) L c7/\Stp (fun d=>d=h\/d=B\/Blk Q d) k H'/\ ∀d,Blk c7 d->Blk Q d\/k.next<=d:=by
 have g9:=c.prs y.prs;have j5:=y.few;obtain⟨Ad,od,hd⟩:=c.hd;obtain⟨H1,A3,b1,p1,g1,m1,n1⟩:=box y.prs.ok (.cells (jX root) 42 1 false);have Z:=y.step p1;have a3:=g9.prs p1;have j6:h<k.next:=c.ok.lt c.gT
 have j9:B<k.next:=c.ok.lt c.gM
 have f4: ∀d,Blk Q d->d<k.next:=fun d a=>c.dg.lt a
 have N0:=y.prs.next;have N1:=p1.next
 have cC:=y.dC;have cF:=y.dF;have lC:=y.ltC;have lF:=y.ltF;have a7:h≠B:=fun e=>by have:=c.gT;rw[e,c.gM]at this;cases this
 have nS: ∀d,k.next<=d-> ¬(d=B\/d=h\/Blk Q d):=fun d a H0=>by
  rcases H0 with e | e | e
  .omega
  .omega
  .have:=f4 d e;omega
 have k0: ¬Blk Q B:=zON c.dg c.gM (fun _ _ e=>by cases e);have k1: ¬Blk Q h:=zON c.dg c.gT (fun _ _ e=>by simp at e);have c8: ∀kv∈H,∀d,vV kv.2 d->d<k.next:=fun kv K d a=>by
  obtain⟨c9,b5⟩:=c.pq.mem kv K;exact b5.lt a
 have lp:=fJ (b:=KR D n) i.length (fun g us H'=>us=[.ptr v 0, .ptr A3 0, .ptr h 0,Y, .int .i64 (i.length:Nat), .int .i64 (g:Nat)]/\Stp (fun d=>d=B\/d=h\/Blk Q d) H1 H'/\ ∃a4 W,H'.h.get B=some (.map [10] a4)/\uH H' a4 (gI q (i.take g))/\H'.h.get h=some (.cells (wQ t G C B J W) 140 1 false)/\
   wG 3 42 H' W (E.drop (i.take g)).dl.length ((E.drop (i.take g)).dl.flatMap jX)/\(∀d,Blk W d->Blk Q d\/H1.next<=d)/\ ∀kv∈a4,kv∈H) (fun g us H' hi ⟨h0,st,a4,W,hM,hp,gT,dg,db,hes⟩=>by
  subst h0;have h6:i[g]∈i:=yJ hi;obtain⟨p,d0⟩: ∃p,p=i[g]:=⟨_,rfl⟩;have d4:=g8 _ h6;have og:Own 3 42 H' Y i.length (i.flatMap jX):=Z.gg.mono st fun d a=>nS d (y.gN d a)
  obtain⟨pq,i1,i2⟩:=bY.at (l:=i) og.row hi;rw[<-d0]at i2 d4;have b0:i.take (g+1)=i.take g++[p]:=by rw[qQ hi,d0]
  obtain⟨u,A6,b2,p2,g2,m2,n2⟩:=box st.ok (.cells [.int .i64 (0:Nat), .int .i64 (0:Nat), .int .u64 (0:Nat)] 42 1 false);obtain⟨I,e3,g3,S,n3⟩:=kE p2.ok g2 (l':=jX p) rfl rfl;have d5:stN 3 (.ptr A6 0) (.agg (jX p)) u=some (jU,I):=e3;have N2:=st.next;have N3:=p2.next
  have U:Prs H' I:=p2.fresh S (fun d a=>by omega);have N4:=U.next
  have b3:=zOM U st.ok hM;have a0:=zOM U st.ok gT;have a5:=dg.mono U fun _ _ x=>x
  have d6:=hp.frame fun kv _ gl z=>z.prs U
  have d7:((g:Nat):Int)< (i.length:Int):=by omega
  have f0:ld1 (.ptr A6 0) I=some (.int .i64 p.at_):=by rw[jR g3];rfl
  have f2:ld1 (.ptr A6 2) I=some (.int .u64 p.sum.toNat):=by
   rw[jR g3,Int.toNat_of_nonneg d4];rfl
  have f3:ldN 3 (.ptr A6 0) I=some (.agg (jX p)):=by rw[jW g3];rfl
  have f5:ld1 (.ptr h 5) I=some (.map B):=by rw[jR a0];rfl
  have f7:ld1 (.ptr h 7) I=some W:=by rw[jR a0];rfl
  by_cases h1:p.at_=1
  .obtain⟨h7,O,e4,h8,h9,T,f6⟩:=zO9 (s:=p.sum.toNat) U.ok b3 d6;have b6:p.at_=((1:Nat):Int):=h1;have i0:O.h.get h=some (.cells (wQ t G C B J W) 140 1 false):=by
    rw[T.keep _ (by omega) a7];exact a0
   have b7:E.drop (i.take (g+1))=E.drop (i.take g):=by
    rw[b0,Ev.drop,Ev.drop,KK,if_neg (by simpa using h1),qW]
   refine⟨_,O, ?_,rfl,(st.trans (U.mono fun _ _ x=>x.elim)).trans (T.mono fun _ _ x=> .inl x),h7,W,h8, ?_,i0, ?_,db,fun kv K=>hes kv (f6 kv K)⟩
   .simp(maxSteps:=999999)(disch:=omega) only[KR,eZ,d7,i1,i2,b2,d5,f0,b6,f5,f2,e4,zAS,yH]
   .rw[b0,QY,if_pos h1];exact h9
   .rw[b7];exact a5.mono T fun d a e=>by subst e;exact zON a5 b3 (fun _ _ e=>by cases e) a
  .have b6: ¬p.at_=((1:Nat):Int):=h1;obtain⟨O,A7,b4,p4,g4,m4,n4⟩:=box U.ok (.cells (jX p) 42 3 false);have a6:=a5.mono p4 fun _ _ x=>x
   have f8:srcOf 3 (.slice A7 0 1 2) O=some (1,jX p):=by simp only[srcOf,g4];rfl
   have f9:=zDi E (i.take g);rw[qC]at f9;obtain⟨b8,H5,e5,a8,s5,i3⟩:=a6.app (bytes:=24) (m:=1) (new:=jX p) p4.ok (by decide) f8 rfl rfl (by omega) (by decide);have M4:=p4.next;have M5:=s5.next
   have i4: ¬Blk W h:=zON a6 (zOM p4 U.ok a0) (fun _ _ e=>by simp at e);have i5: ¬Blk W B:=zON a6 (zOM p4 U.ok b3) (fun _ _ e=>by cases e);have b9:H5.h.get h=some (.cells (wQ t G C B J W) 140 1 false):=by
    rw[s5.keep _ (by omega) i4];exact zOM p4 U.ok a0
   obtain⟨H6,e6,g6,s6,n6⟩:=xI s5.ok b9 (o:=7) (x:=b8) a8.isCell (by simp[wQ]);have g6:H6.h.get h=some (.cells (wQ t G C B J b8) 140 1 false):=g6;have i6:H6.h.get B=some (.map [10] a4):=by
    rw[s6.keep _ (by omega) (fun e=>a7 e.symm),s5.keep _ (by omega) i5];exact zOM p4 U.ok b3
   have b7:(E.drop (i.take (g+1))).dl=(E.drop (i.take g)).dl++[p]:=by
    simp only[b0,Ev.drop,KK];rw[if_pos (by simpa using h1),qH]
   have e1:=bldQ 42 p [.int .i64 (0:Nat), .int .i64 (0:Nat), .int .u64 (0:Nat)] rfl;have i7:Stp (fun d=>d=B\/d=h\/Blk Q d) H1 H6:=by
    refine Stp.thr (Stp.thr (st.trans ((U.trans p4).mono fun _ _ x=>x.elim)) s5 fun d e=> ?_) s6 fun d e=> .inr (.inr (.inl e))
    rcases db d e with x | x
    .exact .inr (.inr (.inr x))
    .exact .inl x
   refine⟨_,H6, ?_,rfl,i7,a4,b8,i6, ?_,g6, ?_,fun d a=> ?_,hes⟩
   .simp(maxSteps:=999999)(disch:=omega) only[KR,eZ,d7,i1,i2,b2,d5,f0,b6,f7,f3,e1,b4,e5,e6,zAS,yH]
   .rw[b0,QY,if_neg h1];refine d6.frame fun kv K gl z=> ?_
    have hk:=hes kv K;have h5:kN H5 kv.2 gl:=(z.prs p4).stp s5 fun d a e=>by
     rcases db d e with x | x
     .exact c.ds kv hk d a (.inl x)
     .have:=c8 kv hk d a;omega
    exact h5.stp s6 fun d a e=>by
     subst e;exact h5.nblk b9 (.inl ⟨_,_,_,_,rfl,fun _ _ e=>by rw[hd]at e;cases e⟩) a
   .rw[b7,zV,jK];have e2:[p].flatMap jX=jX p:=by simp
    rw[e2];exact a8.mono s6 fun d a e=>by subst e;exact zON a8 b9 (fun _ _ e=>by simp at e) a
   .rcases i3 d a with e | e
    .exact db d e
    .exact .inr (by omega)) n _ H1 ⟨rfl,zOJ p1.ok,H,Q,a3.gM,by simpa[gI]using a3.pq,a3.gT,by simpa[Ev.drop]using a3.dg,fun d a=> .inl a,fun _ H0=>H0⟩ z
 obtain⟨m,us,u,e2,rfl,st,a9,f,hM,hp,d8,c4,c5,g0⟩:=lp;rw[jG]at hp c4;have N2:=st.next
 have e9:kL (m+1) (KR D n) [.ptr v 0, .ptr A3 0, .ptr h 0,Y, .int .i64 (i.length:Nat), .int .i64 (i.length:Nat)] u=some (.exit 0 [.ptr v 0, .ptr A3 0, .ptr h 0],u):=kD (by simp only[KR,eZ,yY]);have d9:u.h.get v=some (.cells [.ptr h 0, .int .u64 (L:Nat), .map l,Y] 242 1 false):=by rw[st.keep _ (by omega) (nS _ (by omega))];exact Z.gC
 have i8:u.h.get l=some (.map [10] s):=by rw[st.keep _ (by omega) (nS _ (by omega))];exact Z.gF
 have i9:u.h.get A3=some (.cells (jX root) 42 1 false):=by rw[st.keep _ (by omega) (nS _ (by omega))];exact g1
 have j4: ∀M:List AV,∀x:AV,∀b,wQ t G C B J x≠ .str M.length b::M:=fun M x b e=>by
  rw[hd]at e;simp[wQ]at e
 have e0:uH u s N:=Z.pf.frame fun kv K gl z=>z.stp st fun d a e=>by
  rcases e with e | e | e
  .subst e;exact z.nblk a3.gM (.inr (.inl ⟨_,_,rfl⟩)) a
  .subst e;exact z.nblk a3.gT (.inl ⟨_,_,_,_,rfl,fun _ _ e=>by rw[hd]at e;cases e⟩) a
  .exact y.gx kv K d a (.inl e)
 have c6:=zI4 st.ok i8 hM (by omega) e0;have f1: ∀x∈s,vB x.1 a9=none:=fun x hx=>by
  obtain⟨es,hs,hm⟩:=Z.pf.keys x hx;rw[hs];refine(hp.find es).2 ?_
  cases hk:jZ es (gI q i)with
  | none=>rfl
  | some c9=>
   have m1:=ZW (v7 hk);obtain⟨k2,h3⟩:=gV (q:=q) (s:=es) (qM.2 ⟨_,m1,rfl⟩);obtain⟨k3,h4⟩:=gV hm;have:=hq _ _ h3;have:=y.fs _ _ h4;omega
 rw[zCq f1 (Z.pf.dist y.fd)]at c6;obtain⟨S,e7⟩:=zIu st.ok (st.ok.lt hM) (.map [10] (a9++s)) (1+1*s.length);have e8:u.next<=(AH.putB u B (.map [10] (a9++s)) (1+1*s.length)).next:=S.next
 generalize AH.putB u B (.map [10] (a9++s)) (1+1*s.length)=I at c6 S e7 e8;have j0:bF [.ptr v 0, .ptr A3 0, .ptr h 0] u=some I:=by
  have c1:ld1 (.ptr v (0+2)) u=some (.map l):=by rw[jR d9];rfl
  have c2:ld1 (.ptr h (0+5)) u=some (.map B):=by rw[jR d8];rfl
  have d1:Nat.blt l u.next=true:=by rw[qD];omega
  have d2:Nat.blt B u.next=true:=by rw[qD];omega
  have d3:Nat.blt h u.next=true:=by rw[qD];omega
  simp only[bF,c1,c2,d1,d2,d3,qO,zU,c6]
 have j1:I.h.get v=some (.cells [.ptr h 0, .int .u64 (L:Nat), .map l,Y] 242 1 false):=by rw[S.keep _ (by omega) (by omega)];exact d9
 have a0:I.h.get h=some (.cells (wQ t G C B J f) 140 1 false):=by rw[S.keep _ (by omega) a7];exact d8
 have j2:I.h.get A3=some (.cells (jX root) 42 1 false):=by rw[S.keep _ (by omega) (by omega)];exact i9
 obtain⟨O,e4,g4,T,n4⟩:=xI S.ok a0 (o:=6) (x:= .int .u64 (L:Nat)) rfl (by simp[wQ]);have g4:O.h.get h=some (.cells (wQ t G C B L f) 140 1 false):=g4;have j3:O.h.get A3=some (.cells (jX root) 42 1 false):=by rw[T.keep _ (by omega) (by omega)];exact j2
 have e5:=JP (o:=2) (n:=3) (x:= .agg (jX root)) g4 (by decide) rfl rfl (by simp[wQ]);have g5:(O.put h (.cells ((wQ t G C B L f).take 2++kF (.agg (jX root))++(wQ t G C B L f).drop (2+3)) 140 1 false)).h.get h=some (.cells (wQ t G root B L f) 140 1 false):=by rw[zOF,if_pos rfl];rfl
 have s5:Stp (fun d=>d=h) O (O.put h (.cells ((wQ t G C B L f).take 2++kF (.agg (jX root))++(wQ t G C B L f).drop (2+3)) 140 1 false)):=(zOJ T.ok).put (T.ok.lt g4) _ (.inr rfl);generalize O.put h (.cells ((wQ t G C B L f).take 2++kF (.agg (jX root))++(wQ t G C B L f).drop (2+3)) 140 1 false)=H5 at e5 g5 s5;have N3:=S.next;have N4:=T.next;have N5:=s5.next
 have fr: ∀ {j:AV} {gl:Nd.Node},kN u j gl->kN H5 j gl:=fun {j gl} z=>by
  have h3:kN I j gl:=z.stp S fun d a e=>by subst e;exact z.nblk hM (.inr (.inl ⟨_,_,rfl⟩)) a
  have h4:kN O j gl:=h3.stp T fun d a e=>by subst e;exact h3.nblk a0 (.inl ⟨_,_,_,_,rfl,fun _ _ e=>by rw[hd]at e;cases e⟩) a
  exact h4.stp s5 fun d a e=>by subst e;exact h4.nblk g4 (.inl ⟨_,_,_,_,rfl,fun _ _ e=>by rw[hd]at e;cases e⟩) a
 have a5:=c4.mono S fun d a e=>by subst e;exact zON c4 hM (fun _ _ e=>by cases e) a
 have a6:=a5.mono T fun d a e=>by subst e;exact zON a5 a0 (fun _ _ e=>by simp at e) a
 have a8:=a6.mono s5 fun d a e=>by subst e;exact zON a6 g4 (fun _ _ e=>by simp at e) a
 have T5:Stp (fun d=>d=h\/d=B\/Blk Q d) k H5:=⟨s5.ok,by omega,fun d a hS=>by
  have a1: ¬d=h:=fun e=>hS (.inl e)
  have a2: ¬d=B:=fun e=>hS (.inr (.inl e))
  rw[s5.keep d (by omega) a1,T.keep d (by omega) a1,S.keep d (by omega) a2,st.keep d (by omega) (fun x=>by
   rcases x with x | x | x
   .exact a2 x
   .exact a1 x
   .exact hS (.inr (.inr x))),p1.keep d (by omega) (fun x=>x),y.prs.keep d a (fun x=>x)]⟩
 refine⟨H5,a9++s,f, ?_,⟨s5.ok,g5, ?_, ?_, ?_,c.cn,a8,fun kv K d a hb=> ?_, ?_,fun d a=>qI (c.xl d a) T5.next⟩,T5,fun d a=> ?_⟩
 .have g7:Nat.ble u.next I.next=true:=by rw[qT];exact e8
  have c0:ld1 (.ptr v 0) H1=some (.ptr h 0):=by rw[jR Z.gC];rfl
  have c3:ld1 (.ptr v 3) H1=some Y:=by rw[jR Z.gC];rfl
  have c1:ld1 (.ptr v 1) I=some (.int .u64 (L:Nat)):=by rw[jR j1];rfl
  have r3:ldN 3 (.ptr A3 0) O=some (.agg (jX root)):=by rw[jW j3];rfl
  simp(maxSteps:=999999)(disch:=omega) only[f126,eZ,b1,c0,c3,Z.gg.row.lnSl,e2,e9,zKt,j0,tld,g7,zU,c1,e4,r3,e5]
 .rw[s5.keep _ (by omega) (fun e=>a7 e.symm),T.keep _ (by omega) (fun e=>a7 e.symm)];exact e7
 .exact uH.append (e0.frame fun kv _ gl z=>fr z) (hp.frame fun kv _ gl z=>fr z)
 .exact c.dks T5 fun d a=>by
   rcases a with e | e | e
   .exact .inl e
   .exact .inr (.inl e)
   .exact .inr (.inr (.inl e))
 .rcases qB.1 K with K | K
  .have hk:=g0 kv K;rcases hb with hb | hb
   .rcases c5 d hb with e | e
    .exact c.ds kv hk d a (.inl e)
    .have:=c8 kv hk d a;omega
   .exact c.ds kv hk d a (.inr hb)
  .rcases hb.imp (c5 d) id with(e | e) | e
   .exact y.gx kv K d a (.inl e)
   .obtain⟨c9,b5⟩:=y.pf.mem kv K;have:=b5.lt a;omega
   .exact y.gx kv K d a (.inr e)
 .have h1:=ZX i q;have h2:=y.fl;simp only[zV];omega
 .rcases c5 d a with e | e
  .exact .inl e
  .exact .inr (by omega)
end Go.Eng.Sh
end
section
namespace Go.Bt
open Go.Nd (Str Kvs Ptr leafOf)
theorem WF.wr: ∀ {h:Nat} {t:Tr h},WF h none none t->WR h t
 | 0,_,w=>w
 | _+1,_,w=>⟨w.1,w.2.1,w.2.2.2⟩
theorem WX.wr: ∀ {h:Nat} {t:Tr h},WX h none none t->(match h,t with | 0,l=>(l:Kvs)≠[] | _+1,t=>t.1≠[])->wM h t<=500->WR h t
 | 0,_,w,hne,hz=>⟨w.1,hne,hz⟩
 | _+1,_,w,hne,hz=>⟨w.1,hne,hz⟩
end Go.Bt
namespace Go.Eng.Sh
open Go.Nd (Ptr sumL leafOf Kvs)
open Go.Bt
variable {E:Ev}{X:Nat->Prop}
def pZ:Ptr:=⟨((0:Nat):Int),((0:Nat):Int),((0:Nat):Int)⟩
def dsk (T:List Ptr):List Ptr:=T.filter fun p=>decide (p.at_≠1)
theorem zCa (a b:List Ptr):dsk (a++b)=dsk a++dsk b:=jN ..
theorem zO8 (h: ∀p∈i,∃j,p=pp j):dsk i=[]:=List.filter_eq_nil_iff.2 fun p hp=>by
 obtain⟨j,rfl⟩:=h p hp;simp[pp]
def cp (l:List Ptr):Nat:=(l.filter fun p=>decide (p.at_=1)).length
theorem zH8:cp []=0:=rfl
theorem fO (p:Ptr)(l:List Ptr):cp (p::l)=(if p.at_=1 then 1 else 0)+cp l:=by
 by_cases e:p.at_=1
 .simp[cp,e];omega
 .simp[cp,e]
theorem aB (a b:List Ptr):cp (a++b)=cp a+cp b:=by simp[cp,jN]
theorem zH7 (h:i.Perm M):cp i=cp M:=(h.filter _).length_eq
theorem cp_pp (h: ∀p∈i,∃j,p=pp j):cp i=i.length:=by
 rw[cp,List.filter_eq_self.2 fun p hp=> ?_];obtain⟨j,rfl⟩:=h p hp;simp[pp]
theorem zB0 {s:Nat}{f:Nd.Node} : ∀ {q:PN},jZ s q=some f->(zB1 s q).length+1=q.length
 | [],h=>by cases h
 | (a,n)::q,h=>by
  simp only[jZ]at h;simp only[zB1];by_cases e:a=s
  .rw[if_pos e];rfl
  .rw[if_neg e]at h⊢;have:=zB0 h;simp only[zY];omega
theorem UT: ∀ {gl:List Ptr} {q:PN},gl.Nodup->(∀p∈gl,p.at_=1-> ∃s f,p=pp s/\jZ s q=some f)->(gI q gl).length+cp gl<=q.length
 | [],q,_,_=>by simp[gI,cp]
 | p::gl,q,hn,h=>by
  obtain⟨j,a⟩:=List.nodup_cons.1 hn;rw[gI,fO];by_cases e:p.at_=1
  .rw[if_pos e,if_pos e];obtain⟨s,f,rfl,u⟩:=h p (zJ ..) e;have m:(pp s).sum.toNat=s:=by simp[pp]
   rw[m];have z:=zB0 u;have C:=UT a (q:=zB1 s q) fun r hr v=>by
    obtain⟨i,o,rfl,x⟩:=h r (zE _ hr) v;have t:i≠s:=fun y=>j (y▸hr)
    exact⟨i,o,rfl,by rw[K8 t];exact x⟩
   omega
  .rw[if_neg e,if_neg e];have:=UT a (q:=q) fun r hr=>h r (zE _ hr)
   omega
theorem zKz {Fr R:List Ptr}(x:M.Perm (i++R))(u:W.Perm (Fr++R))(y:(i++R).Nodup)(T: ∀p∈i,∃f,Qf E q [] p=some f)(z: ∀p∈Fr,∃j,p=pp j)(fl:N.length+h<=v)(F:h+Fr.length=v)(C:q.length<=cp M):(gI q i++N).length<=cp W:=by
 have a:=UT (q:=q) (List.nodup_append.1 y).1 fun p hp e=>by
  obtain⟨f,gl⟩:=T p hp;obtain⟨s,rfl,a | ⟨_,a⟩⟩ | ⟨_,a⟩:=vT gl
  .simp[jZ]at a
  .exact⟨s,f,rfl,a⟩
  .have:=(gG a).2;omega
 rw[zH7 x,aB]at C;rw[zH7 u,aB,cp_pp z,zV];omega
theorem zDh (E:Ev){Fr R:List Ptr}(h:i.Perm (W++R))(o:M.Perm (Fr++R))(q: ∀p∈Fr,∃j,p=pp j):(dsk M++(E.drop W).dl).Perm (dsk i++E.dl):=by
 have m:(dsk i).Perm (dsk (W++R)):=h.filter _;have f:(dsk M).Perm (dsk (Fr++R)):=o.filter _;rw[zCa]at m f;rw[zO8 q,yE]at f;have s:(E.drop W).dl=E.dl++dsk W:=rfl;rw[s];rw[List.perm_iff_count]at m f⊢;intro a;have t:=m a;have u:=f a;simp only[List.count_append]at t u⊢;omega
def v5 (E:Ev)(q:PN)(root:Ptr)(kv:Kvs)(T:List Ptr):Prop:=(root=pZ/\kv=[]/\T=[])\/ ∃h a,∃t:Bt.Tr h,∃S:List Ptr,Qf E q [] root=some a/\wL (Qf E q []) h a t S/\WR h t/\(root::S).Nodup/\con h t=kv/\T=root::S
theorem vG.here {α:Type}{Q:Ptr->Option Nd.Node}{R:Nd.Node->α->List Ptr->Prop}(hr: ∀f t S,R f t S-> ∀p∈S,∃f,Q p=some f): ∀ {j:List Ptr} {ts:List α} {S:List Ptr},vG Q R j ts S-> ∀p∈S,∃f,Q p=some f
 | [],[],_,h=>by subst h;simp
 | p::j,t::ts,_,⟨f,S1,S2,a,b,c,e⟩=>fun x i=>by
  subst e;rcases zO.1 i with rfl | i
  .exact⟨f,a⟩
  .rcases qB.1 i with i | i
   .exact hr _ _ _ b x i
   .exact vG.here hr c x i
 | [],_::_,_,h=>h.elim
 | _::_,[],_,h=>h.elim
theorem wL.here {Q:Ptr->Option Nd.Node} : ∀ {h:Nat} {a:Nd.Node} {t:Bt.Tr h} {S:List Ptr},wL Q h a t S-> ∀p∈S,∃a,Q p=some a
 | 0,_,_,_,w=>by obtain⟨_,rfl⟩:=w;simp
 | h+1,_,_,_,w=>vG.here (fun _ _ _ hr=>wL.here hr) w.2.2.2
theorem zLi {q f:PN}{gl T Fr R:List Ptr}{o:Nat}(t: ∀s m,jZ s q=some m->s<=o)(K: ∀s m,jZ s f=some m->o<s)(x:T.Perm (Fr++R))(L:(gl++R).Nodup)(F: ∀p∈gl,∃m,Qf E q [] p=some m)(u: ∀p∈Fr,∃j,p=pp j/\o<j)(G:Fr.Nodup)(hR: ∀p∈R,∃m,Qf E q [] p=some m):
  T.Nodup/\ ∀p∈T,∀m,Qf E q f p=some m->Qf E (gI q gl++f) [] p=some m:=by
 have z: ∀s,pp s∈R->s<=o:=fun s hp=>by
  obtain⟨m,h⟩:=hR _ hp;obtain⟨y,e,i | ⟨_,i⟩⟩ | ⟨i,_⟩:=vT h
  .simp[jZ]at i
  .have:=Y8 e;subst this;exact t _ _ i
  .exact absurd rfl (i s)
 obtain⟨_,I,C⟩:=List.nodup_append.1 L;refine⟨x.nodup_iff.2 (List.nodup_append.2 ⟨G,I,fun a M b hb e=> ?_⟩),fun p hp m h=> ?_⟩
 .obtain⟨j,rfl,N⟩:=u a M;subst e;have:=z j hb;omega
 .obtain⟨s,rfl,i | ⟨Z,i⟩⟩ | ⟨i,O⟩:=vT h
  .rw[BF];simp only[jZ];have Q:=K _ _ i;rw[v8]
   cases S:jZ s (gI q gl)with
   | none=>exact i
   | some n2=>
    obtain⟨n3,U⟩:=gV (qM.2 ⟨_,ZW (v7 S),rfl⟩);have:=t _ _ U;simp only at this;omega
  .rw[BF];simp only[jZ];have Q:=t _ _ i;have J:pp s∈R:=by
    rcases qB.1 (x.mem_iff.1 hp)with e | e
    .obtain⟨j,e,N⟩:=u _ e;have:=Y8 e;omega
    .exact e
   rw[v8,V5 fun V v e1 e=> ?_,i];obtain⟨Y,W⟩:=F V v;obtain⟨y,rfl,_⟩ | ⟨_,hd⟩:=vT W
   .have:s=y:=by simpa[pp]using e
    subst this;exact C _ v _ J rfl
   .have:=(gG hd).2;omega
  .rw[Y5 i];exact O
theorem zCT (o: ∀s a,jZ s q=some a->s<=h)(p: ∀s a,jZ s N=some a->h<s/\s<=v)(hl:h<=v): ∀s a,jZ s (gI q i++N)=some a->s<=v:=fun s a f=>by
 rw[v8]at f
 cases m:jZ s (gI q i)with
 | none=>rw[m]at f;exact(p _ _ f).2
 | some n2=>
  obtain⟨u,t⟩:=gV (qM.2 ⟨_,ZW (v7 m),rfl⟩);have:=o _ _ t;simp only at this;omega
theorem vG.perm_one {α:Type}{R:Nd.Node->α->List Ptr->Prop}{t:α}(h:vG r R i [t] M): ∃p f Q,i=[p]/\r p=some f/\R f t Q/\M=p::Q:=by
 match i,h with
 | [p],⟨f,Q,S2,a,b,c,e⟩=>exact⟨p,f,Q,rfl,a,b,by simp only[vG]at c;rw[e,c,qW]⟩
 | _::_::_,⟨_,_,_,_,_,c,_⟩=>exact c.elim
 | [],h=>exact h.elim
theorem CutsN.one_inv {i:List Str}(h:CutsN p U i)(j:Nd.size p<=500):U=[p]/\i=[]:=by
 cases h with
 | one _=>exact⟨rfl,rfl⟩
 | more h1=>omega
theorem CutsN.more_inv {f:List Str}(h:CutsN p U f)(j:500<Nd.size p):f≠[]:=by
 cases h with
 | one h1=>omega
 | more h1=>simp
end Go.Eng.Sh
end
section
namespace Go.Eng.Sh
open Go.Nd (Ptr sumL leafOf Kvs)
open Go.Bt
variable {E:Ev}
def zJP (E:Ev)(H0 H':AH)(i M:Nat)(d c j:AV)(low m:Nat)(kv:Kvs)(T:List Ptr):Prop:= ∃gl root es q a h f,TI (E.drop gl) H' i M d c root es q a h/\Stp (fun B=>B=i\/B=M\/Blk j B) H0 H'/\(∀B,Blk h B->Blk j B\/H0.next<=B)/\(∀s o,jZ s q=some o->s<=a)/\(q.length<=a/\q.length<=cp f)/\low<=a/\a<=m/\v5 E q root kv f/\(dsk f++(E.drop gl).dl).Perm (dsk T++E.dl)/\gl.length<=100
theorem zJP.mono (H':zJP E k F h v t G Q l J I i)(hl:B<=l)(H0:J<=L):zJP E k F h v t G Q B L I i:=by
 obtain⟨gl,root,es,q,o,p,M,u,j,x,y,h5,d,c,z,C,s⟩:=H';exact⟨gl,root,es,q,o,p,M,u,j,x,y,h5,by omega,by omega,z,C,s⟩
theorem zKK (h:Qf E q N C=some p):0<=C.sum:=by
 obtain⟨s,rfl,_⟩ | ⟨_,j⟩:=vT h
 .simp[pp]
 .obtain⟨a,birth,kind,body,rfl,_⟩:=zOI.1 j;simp[bN]
theorem zGX(S:TI E k h B t G C H q J Q)(y: ∀c m,jZ c q=some m->c<=J)
  (j:Ch (XE E Q) k F h v l s N Y i J L) (u: ∀p∈i,∃m,Qf E q [] p=some m) (hl:L<=900000000) (U:i.length<n) (x:q.length<=J) (I:E.dl.length+i.length<=900000000) (o:M.Perm i) (f:i.length<=100) (K:q.length<=cp M) (g:J=L) (z:i.Nodup):
  ∃H',f126 D n [.ptr v 0, .agg [.int .i64 (0:Nat), .int .i64 (0:Nat), .int .u64 (0:Nat)]] F=some (.tuple [],H')/\zJP E k H' h B t G Q L L [] M:=by
 obtain⟨H',es',O,e,d,st,V⟩:=zGY D n (root:=pZ) S y j (fun p hp=>(u p hp).elim fun m H0=>zKK H0) hl U x I;refine⟨H',e,i,_,_,_,L,O,[],d,st,V,zCT y j.fs j.le, ?_,zP _,zP _, .inl ⟨rfl,rfl,rfl⟩,zDh E (R:=[]) (Fr:=[]) (by simpa using o) (by simp) (by simp),f⟩;refine⟨?_,zKz (E:=E) (R:=[]) (Fr:=[]) (by simpa using o) (by simp) (by simpa using z) u (by simp) j.fl (by simpa using g) K⟩;have W:=ZX i q;have es:=j.fl;simp only[zV];omega
theorem ZV{h:Nat}{rp:Ptr}{g:AV}{Fr R T:List Ptr}{t:Bt.Tr h}{S:List Ptr}(ti:TI E k v J G Q C H q L Y)(z: ∀y p,jZ y q=some p->y<=L)
  (o:Ch (XE E Y) k F v l B s N g i L P) (u: ∀es∈i,∃p,Qf E q [] es=some p) (hl:P<=900000000) (hn:i.length<n) (K:q.length<=L) (O:E.dl.length+i.length<=900000000)
  (hs:Qf E q N rp=some p) (rn:wL (Qf E q N) h p t S) (wr:WR h t) (c:(rp::S).Perm (Fr++R)) (x:(i++R).Nodup) (H0: ∀es∈Fr,∃j,es=pp j/\L<j) (M:Fr.Nodup) (hR: ∀es∈R,∃p,Qf E q [] es=some p) (I:T.Perm (i++R)) (U:i.length<=100) (V:q.length<=cp T) (W:L+Fr.length=P):
  ∃H',f126 D n [.ptr l 0, .agg (jX rp)] F=some (.tuple [],H')/\zJP E k H' v J G Q Y P P (con h t) T:=by
 obtain⟨H',es',d,e,Z,st,db⟩:=zGY D n (root:=rp) ti z o (fun es hp=>(u es hp).elim fun p h=>zKK h) hl hn K O;obtain⟨a0,mono⟩:=zLi z (fun y p h=>(o.fs y p h).1) c x u H0 M hR;refine⟨H',e,i,_,_,_,P,d,_,Z,st,db,zCT z o.fs o.le, ?_,zP _,zP _, .inr ⟨h,p,t,S,mono rp (zJ ..) p hs,rn.mono (fun es hp p hh=>mono es (zE _ hp) p hh),wr,a0,rfl,rfl⟩,zDh E I c fun es hp=>(H0 es hp).elim fun j h=>⟨j,h.1⟩,U⟩;refine⟨?_,zKz I c x u (fun es hp=>(H0 es hp).elim fun j h=>⟨j,h.1⟩) o.fl W V⟩;have h1:=ZX i q;have h2:=o.fl;simp only[zV];omega
theorem zJ9(hn:200000000<=n){u:AV}{R:AV}{t:Bt.Tr J}{S:List Ptr}(ti:TI E k h B G Q C H q L Y)(O: ∀f5 p,jZ f5 q=some p->f5<=L)
  (y:Ch (XE E Y) k F h v l s N R i L P) (a9: ∀I∈i,∃p,Qf E q [] I=some p) (hl:P<=700000000) (b0:i.length<n) (b2:q.length<=L) (hu:xU (XE E Y) F R u p)
  (c:wL (Qf E q N) J p t S) (wx:WX J none none t) (hS:S.Perm (M++W)) (hG:(i++W).Nodup) (b3: ∀I∈M,∃j,I=pp j/\L<j/\j<=P) (c0:M.Nodup) (hR: ∀I∈W,∃p,Qf E q [] I=some p) (b4:E.dl.length+i.length<=900000000) (a0:g.Perm (i++W)) (b5:i.length<=100) (b6:q.length<=cp g) (f6:L+M.length=P):
  ∃H',f131 D n [.ptr v 0,u] F=some (.int .i64 (0:Nat),H')/\zJP E k H' h B G Q Y P (P+7) (con J t) g:=by
 obtain⟨ks,d4,ps,rfl,j1,j2,j3⟩:=id hu.1;obtain⟨H1,dr,b1,U,V,m1,n1⟩:=box y.prs.ok (.cells [.bool p.leaf,ks,d4,ps] 119 1 false);have f:=y.step U;have f7:=hu.prs U;have b7: ∀I∈M,∃j,I=pp j/\L<j:=fun I hp=>by obtain⟨j,a,b,_⟩:=b3 I hp;exact⟨j,a,b⟩
 have e0:ld1 (.ptr dr 0) H1=some (.bool p.leaf):=by rw[jR V];rfl
 have e1:ld1 (.ptr dr 1) H1=some ks:=by rw[jR V];rfl
 have e3:ld1 (.ptr dr 3) H1=some ps:=by rw[jR V];rfl
 by_cases es:p.keys=[]
 ·
  have a5:(p.keys.length:Int)=((0:Nat):Int):=by rw[es];rfl
  cases J with
  | zero=>
   obtain⟨d5,rfl⟩:=c;have f8:W=[]:=by
    have:=hS.length_eq;simp only[yS,zV]at this;exact zR (by omega)
   have h9:M.length=0:=by
    have:=hS.length_eq;simp only[yS,zV]at this;omega
   rw[f8,qW]at a0 hG;have ht:t=([]:Kvs):=List.map_eq_nil_iff.1 (show List.map Prod.fst (t:Kvs)=[]from(show(leafOf t).keys=[]from d5▸es));subst ht;obtain⟨H2,Fr,K⟩:=zGX D n ti O f a9 (by omega) b0 b2 b4 a0 b5 b6 (by omega) hG;refine⟨H2, ?_,K.mono (zP _) (by omega)⟩;have c3:ld1 (.ptr dr 0) H1=some (.bool true):=by rw[e0,d5];rfl
   have bs:uO [(0,1),(1,1),(2,1)] [.int .i64 (0:Nat), .int .i64 (0:Nat), .int .u64 (0:Nat)] []=some (.agg [.int .i64 (0:Nat), .int .i64 (0:Nat), .int .u64 (0:Nat)]):=rfl;simp(maxSteps:=999999)(disch:=omega) only[f131,eZ,b1,e1,j1.row.lnSl,a5,c3,bs,Fr,zDe]
  | succ J=>
   obtain⟨r1,r2,r3,r4⟩:=id c;obtain⟨e8,w2⟩:=id wx;rw[es]at r2;have a7:=e8.2.2.len;rw[<-r2]at a7;obtain⟨t1,c4⟩: ∃t1,t.2=[t1]:=by
    match ht:t.2,a7 with
    | [a],_=>exact⟨a,rfl⟩
   have d6:=e8.2.2;rw[<-r2,c4]at d6;rw[c4]at r4;obtain⟨k0,i0,S1,c5,q1,f9,g0⟩:=vG.perm_one r4;subst g0;obtain⟨H2,Fr,K⟩:=ZV D n ti O f a9 (by omega) b0 b2 b4 q1 f9 (WF.wr d6) hS hG b7 c0 hR a0 b5 b6 f6;have c3:ld1 (.ptr dr 0) H1=some (.bool false):=by rw[e0,r1]
   have b8:con (J+1) t=con J t1:=by simp only[con,c4,qL,List.flatMap_nil,qW]
   rw[b8];refine⟨H2, ?_,K.mono (zP _) (by omega)⟩;obtain⟨qk,ik,a6⟩:=bY.at (l:=p.kids) (j3.mono U (fun _ _ x=>x)).row (i:=0) (by rw[c5];simp);have c6:p.kids[0]'(by rw[c5];simp)=k0:=by simp[c5]
   rw[c6]at a6;simp(maxSteps:=999999)(disch:=omega) only[f131,eZ,b1,e1,j1.row.lnSl,a5,c3,e3,ik,a6,Fr,zDe]
 ·
  have a5: ¬(p.keys.length:Int)=((0:Nat):Int):=by
   have:p.keys.length≠0:=fun e=>es (zR e)
   omega
  have g2:=c.shaped wx.gen (fun _=>es) (wL.kidOk c);have hz:Nd.size p<=785:=by rw[c.size];exact wx.sz
  obtain⟨pv,sv,H2,vs,o,z,Fr,p2,a8,oP,f1,oS,bP,bS,g3⟩:=zB2 D n hn U.ok f7.1 g2 (by omega);obtain⟨ts,c1,c2⟩:=UU a8 c wx;have i1:o.length<=6:=by
   by_cases hb:Nd.size p<=500
   .rw[(a8.one_inv hb).1];simp
   .have:=(US c1 wx (.inr (by rw[<-c.size];omega))).2.2.1;rw[c2.len];exact this
  have g4:=f.step p2;obtain⟨kv,H3,d7,c7,a3,o3,f3⟩:=zBs D n hn g4 oP f1 (fun At hl Ac hB=>by
   rcases g3 At hl Ac hB with e | e
   .exact hu.2 Ac e
   .exact⟨fun c8=>by have:=zOR f.gg.row c8;omega,fun hx=>by have:=f.xo Ac hx;have:=f.prs.next;omega⟩) (by omega) (by omega)
  have N1:=U.next;have N2:=p2.next;have N3:=a3.1.next
  have e9: ∀j,jZ (P+1+j) N=none:=fun j=>by
   cases es:jZ (P+1+j) N with
   | none=>rfl
   | some n2=>have:=y.fs _ _ es;omega
  have f2: ∀f5 d,jZ f5 (vC P o)=some d->L<f5:=fun f5 d hs=>by have:=WE hs;have:=y.le;omega
  have more: ∀I p,Qf E q N I=some p->Qf E q (N++vC P o) I=some p:=fun I p hp=>BG O f2 hp
  have d8: ∀j d,o[j]? =some d->Qf E q (N++vC P o) (pp (P+1+j))=some d:=fun j d hj=>by rw[BF,v8,e9];simp only[QO hj]
  have c9:bY H3 kv (pps P o.length):=by
   have:=o3.row;rw[bY,dD];exact this
  have d0:=c9.lnSl;rw[dD]at d0;have d9: ¬(((0:Nat):Int)≠((0:Nat):Int)):=by omega
  by_cases hb:Nd.size p<=500
  .obtain⟨rfl,rfl⟩:=a8.one_inv hb;have b9:(([p].length:Nat):Int)=((1:Nat):Int):=rfl;have wr:WR J t:=wx.wr (by
    cases J with
    | zero=>obtain⟨rfl,_⟩:=c;intro e;exact es (by rw[show t=([]:Kvs)from e];rfl)
    | succ J=>exact(show t.1≠[]from c.2.1▸es)) (by rw[<-c.size];exact hb)
   have d1: ∀I∈pp (P+1)::M,∃j,I=pp j/\L<j:=fun I hp=>by
    rcases zO.1 hp with rfl | hp
    .exact⟨_,rfl,by have:=y.le;omega⟩
    .exact b7 I hp
   have d2:(pp (P+1)::M).Nodup:=List.nodup_cons.2 ⟨fun hp=>by
    obtain⟨j,e,_,hj⟩:=b3 _ hp;have:=Y8 e;omega,c0⟩
   obtain⟨H4,e4,K⟩:=ZV D n (rp:=pp (P+1)) (t:=t) (S:=S) ti O c7 a9 (by simp;omega) b0 b2 b4 (d8 0 p rfl) (c.mono fun I _ p hp=>more I p hp) wr (List.Perm.cons _ hS) hG d1 d2 hR a0 b5 b6 (by simp;omega);refine⟨H4, ?_,K.mono (by simp) (by simp)⟩;obtain⟨qk,ik,a6⟩:=bY.at c9 (i:=0) (by simp[pps]);have c6:(pps P [p].length)[0]'(by simp[pps])=pp (P+1):=by simp[pps]
   rw[c6]at a6;simp(maxSteps:=999999)(disch:=omega) only[f131,eZ,b1,e1,j1.row.lnSl,a5,uG V rfl,Fr,jS,nth,d9,d7,d0,b9,ik,a6,e4,zGA]
  .have e6:=a8.more_inv (by omega);obtain⟨e8,w2,w3,_⟩:=US c1 wx (.inr (by rw[<-c.size];omega));have a7:=e8.2.2.len;simp only at a7;have h7:z.length≠0:=fun e=>e6 (zR e)
   have i2:=c2.len;have b9: ¬(o.length:Int)=((1:Nat):Int):=by omega
   have g5:zDJ (Qf E q (N++vC P o)) J o ts S:=by
    have mono: ∀ {Z:List Nd.Node} {T:List (Bt.Tr J)} {S':List Ptr},zDJ (Qf E q N) J Z T S'->zDJ (Qf E q (N++vC P o)) J Z T S':=by
     intro Z
     induction Z with
     | nil=>intro T S' hp;cases T with
      | nil=>exact hp
      | cons=>exact hp.elim
     | cons a Z ih=>intro T S' hp;cases T with
      | nil=>exact hp.elim
      | cons b T=>
       obtain⟨S1,S2,a1,a2,a3⟩:=hp;exact⟨S1,S2,a1.mono fun I _ p hp=>more I p hp,ih a2,a3⟩
    exact mono c2
   obtain⟨S2,r2,g6⟩:=g5.kids P d8;have i3:H3.h.get dr=some (.cells [.bool p.leaf,ks,d4,ps] 119 1 false):=by
    rw[a3.1.keep _ (by omega) (fun hc=>by
     rcases hc with e | e | e
     .have:=y.ltC;omega
     .have:=y.ltF;omega
     .have:=zOR y.gg.row e;omega)]
    exact zOM p2 U.ok V
   have e7:Own 1 9 H3 sv z.length (z.map Go.Eng.S):=oS.mono a3.1 (fun Ac hB hc=>by
    have:=bS Ac hB;rcases hc with e | e | e
    .have:=y.ltC;omega
    .have:=y.ltF;omega
    .have:=zOR y.gg.row e;omega)
   have g7:kN H3 (.agg [.bool false,sv, .nS,kv]) ⟨false,z,[],pps P o.length⟩:=⟨sv, .nS,kv,rfl, .inl e7, .inl (zOP ..), .inl (by
    simp only[dD];exact o3)⟩
   have g8:xU (XE E Y) H3 R (.agg [.bool false,sv, .nS,kv]) ⟨false,z,[],pps P o.length⟩:=⟨g7,fun Ac hB=>by
    have i4:F.next<=Ac:=by
     rcases xB.1 hB with e | e | e
     .have:=bS Ac e;omega
     .exact(zOO.1 e).elim
     .have:=f3 Ac e;omega
    exact⟨fun c8=>by have:=zOR y.gg.row c8;omega,fun hx=>by have:=y.xo Ac hx;have:=y.prs.next;omega⟩⟩
   obtain⟨H4,e4,g9,a4⟩:=zHF D n c7 g8 (by omega);have f4:jZ (P+o.length+1) (N++vC P o)=none:=by
    cases es:jZ (P+o.length+1) (N++vC P o)with
    | none=>rfl
    | some n2=>have:=c7.fs _ _ es;omega
   have d3: ∀I d,Qf E q (N++vC P o) I=some d->Qf E q (N++vC P o++[(P+o.length+1,⟨false,z,[],pps P o.length⟩)]) I=some d:=fun I d hp=>BG O (fun f5 p hs=>by
    simp only[jZ]at hs;split at hs
    .have:=y.le;omega
    .cases hs) hp
   have h0:Qf E q (N++vC P o++[(P+o.length+1,⟨false,z,[],pps P o.length⟩)]) (pp (P+o.length+1))=some ⟨false,z,[],pps P o.length⟩:=by
    rw[BF,v8,f4];simp[jZ]
   have h5:wL (Qf E q (N++vC P o++[(P+o.length+1,⟨false,z,[],pps P o.length⟩)])) (J+1) ⟨false,z,[],pps P o.length⟩ (z,ts) S2:=⟨rfl,rfl,rfl,r2.mono (fun I _ p hp=>d3 I p hp) (fun p t S1 _ hr=>hr.mono fun I _ p hp=>d3 I p hp)⟩;have h8:=QE (ks:=z) (fun H0 es=>(e8.1 H0 es).1);have h6:WR (J+1) (z,ts):=⟨e8,e6,by simp only[wX];omega⟩;have d1: ∀I∈pp (P+o.length+1)::(pps P o.length++M),∃j,I=pp j/\L<j:=fun I hp=>by
    have:=y.le;rcases zO.1 hp with rfl | hp
    .exact⟨_,rfl,by omega⟩
    .rcases qB.1 hp with hp | hp
     .obtain⟨j,rfl,h1,h2⟩:=aK hp;exact⟨_,rfl,by omega⟩
     .exact b7 I hp
   have d2:(pp (P+o.length+1)::(pps P o.length++M)).Nodup:=by
    refine List.nodup_cons.2 ⟨fun hp=> ?_,List.nodup_append.2 ⟨JX _ _,c0,fun a ha b hb e=> ?_⟩⟩
    .rcases qB.1 hp with hp | hp
     .obtain⟨j,e,h1,h2⟩:=aK hp;have:=Y8 e;omega
     .obtain⟨j,e,h1,h2⟩:=b3 _ hp;have:=Y8 e;omega
    .obtain⟨j,rfl,h1,h2⟩:=aK ha;obtain⟨j',rfl,h3,h4⟩:=b3 _ hb;have:=Y8 e;omega
   have hT:(pp (P+o.length+1)::S2).Perm ((pp (P+o.length+1)::(pps P o.length++M))++W):=by
    rw[qF,qH];exact List.Perm.cons _ (g6.trans (List.Perm.append_left _ hS))
   obtain⟨H5,e5,K⟩:=ZV D n (rp:=pp (P+o.length+1)) ti O g9 a9 (by omega) b0 b2 b4 h0 h5 h6 hT hG d1 d2 hR a0 b5 b6 (by simp only[zY,zV,dD];omega);have b8:con (J+1) (z,ts)=con J t:=w2;rw[b8]at K;refine⟨H5, ?_,K.mono (by omega) (by omega)⟩;simp(maxSteps:=999999)(disch:=omega) only[f131,eZ,b1,e1,j1.row.lnSl,a5,uG V rfl,Fr,jS,nth,d9,d7,d0,b9,zMt e7.row.isCell c9.isCell,e4,e5,zGA]
end Go.Eng.Sh
end
section
namespace Go.Bt
open Go.Nd (Str Kvs leafOf)
theorem WR.gen: ∀ {h:Nat} {t:Tr h},WR h t->Gen h none none t
 | 0,_,w=>w.1
 | _+1,_,w=>w.1
theorem WR.sz: ∀ {h:Nat} {t:Tr h},WR h t->wM h t<=500
 | 0,_,w=>w.2.2
 | _+1,_,w=>w.2.2
theorem zD4 {h:Nat} : ∀ {ts:List (Tr h)},(∀t∈ts,2 ^ h<=(con h t).length)->ts.length*2 ^ h<=(ts.flatMap (con h)).length
 | [],_=>by simp
 | t::ts,ih=>by
  have f:=ih t (zJ ..);have i:=zD4 (ts:=ts) fun t a=>ih t (zE _ a)
  simp only[zY,qL,zV,jB,Nat.one_mul];omega
theorem zG6 {t:List Str×List (Tr h)}(f: ∀ {j m:Bd} {t:Tr h},WF h j m t->2 ^ h<=(con h t).length)(w:Inn (WF h) j m t)(a:t.1≠[]):2 ^ (h+1)<=(t.2.flatMap (con h)).length:=by
 have hl:=w.2.2.len;have hi:t.1.length≠0:=fun e=>a (zR e)
 have o:=zD4 (ts:=t.2) fun x lo=>by
  obtain⟨i,m,rfl⟩:=jQ lo;exact f (KB.at w.2.2 (zK m))
 have p:2*2 ^ h<=t.2.length*2 ^ h:=yR _ (by omega);rw[Nat.pow_succ];omega
theorem WF.many: ∀ {h:Nat} {lo hi:Bd} {t:Tr h},WF h lo hi t->2 ^ h<=(con h t).length
 | 0,_,_,t,w=>by
  have:List.length (t:Kvs)≠0:=fun e=>w.2.1 (zR e)
  show 1<=List.length (t:Kvs);omega
 | _+1,_,_,_,w=>zG6 WF.many w.1 w.2.1
theorem WR.many: ∀ {h:Nat} {t:Tr h},WR h t->2 ^ h<=(con h t).length
 | 0,t,w=>by
  have:List.length (t:Kvs)≠0:=fun e=>w.2.1 (zR e)
  show 1<=List.length (t:Kvs);omega
 | _+1,_,w=>zG6 WF.many w.1 w.2.1
theorem WR.low {t:Tr h}(w:WR h t)(f:(con h t).length<=1000000000):h<=29:=by
 have:=w.many;rcases Nat.lt_or_ge h 30 with a | a
 .omega
 .have i:2 ^ 30<=2 ^ h:=Nat.pow_le_pow_right (by decide) a;have j:(2:Nat) ^ 30=1073741824:=by decide
  omega
end Go.Bt
namespace Go.Eng.Sh
open Go.Nd (Ptr sumL leafOf Kvs)
open Go.Bt
variable {E:Ev}
theorem cbx:(∀A o,kF (.ptr A o)=[.ptr A o])/\kF .nP=[.nP]/\kF .nilFunc=[.nilFunc]/\(∀k z,kF (.int k z)=[.int k z])/\(∀l,kF (S l)=[S l])/\(∀ed K V,kF (edF ed K V)=[edF ed K V])/\(∀A o,aveq (.ptr A o) (.ptr A o)=true):=
 ⟨fun _ _=>rfl,rfl,rfl,fun _ _=>rfl,fun _=>rfl,fun ed _ _=>by cases ed<;>rfl,fun _ _=>by simp[aveq]⟩
theorem zMr (s:Prs k F)(j:F.h.get v=some (.cells [.ptr h 0, .int .u64 (B:Nat), .map l, .nS] 242 1 false))(m:F.h.get l=some (.map [10] []))(o:k.next<=v)(p:k.next<=l)(ne:v≠l)(hX: ∀H',w H'->H'<k.next):
  Ch w k F h v l [] [] .nS [] B B:=
 ⟨s,j,m,trivial,zOP ..,fun H' q=>(zOO.1 q).elim,fun _ H=>by simp at H,o,p,ne,fun _ _ H=>by simp[jZ]at H,zP _,by simp,by simp,by simp,fun _ H=>by simp at H,hX⟩
theorem zB7 (M n:Nat)(hM:300000000<=M)(hn:300000000<=n){V:Nat}{T:List Ptr}{ed:Ed}(i:TI E k v l G Q C H q J Y)(hq: ∀s y,jZ s q=some y->s<=J)(e3:q.length<=J)(hl:J<=500000000)
  (hr:v5 E q C I T) (o2:E.dl.length<=800000000) (c6:I.length<=1000000000) (ho:ed.ok) (hb:edB k ed B V) (e4:q.length<=cp T):
  ∃(e:Nat) (H':AH),f82 (dy (M+2)) n [.ptr v 0,S ed.key,edF ed B V] k=some (.int .i64 (e:Nat),H')/\
   ((e=52/\E.bd/\Prs k H')\/match ed.run I with
   | none=>e=5/\Prs k H'
   | some kv'=>e=0/\zJP E k H' v l G Q Y J (J+200) kv' T):=by
 obtain⟨H1,es,b1,p1,g1,m1,n1⟩:=box i.ok (.cells [.ptr v 0] 31 1 false);obtain⟨H2,B4,b2,W,g2,m2,n2⟩:=box p1.ok (.cells [S ed.key] 9 1 false);obtain⟨H3,B3,b3,a,g3,m3,n3⟩:=box W.ok (.cells [edF ed B V] 162 1 false);obtain⟨H4,F,b4,p4,g4,m4,n4⟩:=box a.ok (.map [10] []);obtain⟨H5,L,b5,N,g5,m5,n5⟩:=box p4.ok (.cells [.ptr v 0, .int .u64 (J:Nat), .map F, .nS] 242 1 false);obtain⟨H6,B6,b6,p6,g6,m6,n6⟩:=box N.ok (.cells [.nP] 240 1 false);obtain⟨m,e7,x7,z⟩:=Box.st (⟨_,g6⟩:Box H6 B6 .nP) p6.ok (x:= .ptr L 0) rfl;have i4:=p1.trans W;have e5:=i4.trans a;have e6:=(e5.trans p4).trans N;have i5:=e6.trans p6;have Z:Prs k m:=i5.fresh z (fun K j=>by have:=e6.next;omega)
 have N1:=p1.next;have N2:=W.next;have N3:=a.next;have N4:=p4.next;have N5:=N.next;have N6:=p6.next;have N7:=z.next
 have a6: ∀ {A:Nat} {o:AObj},H5.h.get A=some o->m.h.get A=some o:=fun {A o} hg=>by
  have:=N.ok.lt hg;rw[z.keep _ (by omega) (by omega)];exact zOM p6 N.ok hg
 have i6:=a6 g5;have i7:=a6 (zOM N p4.ok g4);have ch:Ch (XE E Y) k m v L F [] [] .nS [] J J:=zMr Z i6 i7 (by omega) (by omega) (by omega) (fun K j=>j.elim i.dg.lt (i.xl K));have c7:=i.prs Z;have i8:=i.prs e5;have k2:Box m es (.ptr v 0):=⟨_,a6 (zOM (p4.trans N) a.ok (zOM a W.ok (zOM W p1.ok g1)))⟩;have k3:Box m B3 (edF ed B V):=⟨_,a6 (zOM (p4.trans N) a.ok g3)⟩;have k4:Box m B4 (S ed.key):=⟨_,a6 (zOM (p4.trans N) a.ok (zOM a W.ok g2))⟩;have l2:ld1 (.ptr es 0) H3=some (.ptr v 0):=by rw[jR (zOM a W.ok (zOM W p1.ok g1))];rfl
 have l6:ld1 (.ptr v 6) H3=some (.int .u64 (J:Nat)):=by rw[jR i8.gT];rfl
 have a3:ld1 (.ptr v 2) m=some (.int .i64 C.at_):=by rw[jR c7.gT];rfl
 have bs:uO [(0,1),(1,1),(2,1),(3,1)] [.nP, .int .u64 (0:Nat), .nM, .nS] [(0, .ptr v 0),(1, .int .u64 (J:Nat)),(2, .map F)]=some (.agg [.ptr v 0, .int .u64 (J:Nat), .map F, .nS]):=rfl;have f1:uO [(0,1),(1,1),(2,1),(3,1)] [.bool false, .nS, .nS, .nS] [(0, .bool true)]=some (.agg [.bool true, .nS, .nS, .nS]):=rfl;have f2: ¬(((0:Nat):Int)≠((0:Nat):Int)):=by omega
 have t50:(((5:Nat):Int)≠((0:Nat):Int)):=by omega
 rcases hr with⟨rfl,rfl,rfl⟩ | ⟨h,y,t,S0,hs,rn,wr,nd0,rfl,rfl⟩
 ·
  have f7:pZ.at_=((0:Nat):Int):=rfl;rw[f7]at a3;have wl:kN m (.agg [.bool true, .nS, .nS, .nS]) (leafOf []):=⟨.nS, .nS, .nS,rfl, .inl (zOP ..), .inl (zOP ..), .inl (zOP ..)⟩;have f3:Lf none none ([]:Kvs):=⟨trivial,by simp⟩;obtain⟨u,H8,_,e8,p8,w8⟩:=zGS (M+1) n (by omega) Z.ok wl f3 (by decide) ho (hb.prs i.ok Z);obtain⟨lu,rfl,a7,c8⟩:=w8.1.cells;obtain⟨H9,B8,b9,p9,g9,m9,n9⟩:=box p8.ok (.cells [.bool false, .nS, .nS, .nS] 119 1 false);obtain⟨a0,i9,c9,d0,j0⟩:=kE p9.ok g9 (l':=lu) a7 c8;have e2:stN 4 (.ptr B8 0) (.agg lu) H9=some (jU,a0):=i9;have N8:=p8.next;have N9:=p9.next;have j1:=d0.next
  have a8:Prs m a0:=(p8.trans p9).fresh d0 (fun K j=>by omega);have f9:=ch.step a8
  cases root:ed.run []with
  | none=>
   have d1:edL ed []=(nd0,5):=by simp only[edL,root]
   rw[d1]at e8;refine⟨5,a0, ?_, .inr ⟨rfl,Z.trans a8⟩⟩;simp(maxSteps:=999999)(disch:=omega) only[f82,eZ,b1,b2,b3,cbx,l2,l6,mkM,b4,bs,b5,b6,e7,k2.ld,a3,k3.ld,f1,e8,jS,nth,b9,e2,t50,ne_eq,yQ]
  | some kv'=>
   have d1:edL ed []=(leafOf kv',0):=by simp only[edL,root]
   rw[d1]at e8 w8;obtain⟨j2,j3⟩:=Ed.leaf (lo:=none) (hi:=none) f3 trivial trivial ho root;have d2:kv'≠[]:=by
    cases ed with
    | put f M0=>simp only[Ed.run,zC]at root;subst root;simp[Nd.putP]
    | del f=>simp[Ed.run,Nd.lookP]at root
   have g0:xU (XE E Y) a0 .nS (.agg lu) (leafOf kv'):=⟨(w8.1.prs p9).stp d0 (fun K j e=>by
    have:=w8.1.lt j;omega),fun K j=>⟨fun hg=>(zOO.1 hg).elim,fun hx=>by have:=w8.2 K j;have:=hx.elim i.dg.lt (i.xl K);omega⟩⟩
   obtain⟨a9,b0,g7,j4⟩:=zHF (dy (M+2)) n f9 g0 (by omega);have hQ:Qf E q ([]++[(J+1,leafOf kv')]) (pp (J+1))=some (leafOf kv'):=by rw[BF];simp[jZ]
   obtain⟨U,j5,dn⟩:=ZV (dy (M+2)) n (rp:=pp (J+1)) (h:=0) (t:=kv') (S:=[]) (Fr:=[pp (J+1)]) (R:=[]) (T:=[]) i hq g7 (by simp) (by omega) (by simp;omega) e3 (by simp;omega) hQ ⟨rfl,rfl⟩ ⟨j2,d2,by simp only[dK]at j3;omega⟩ (by simp) (by simp) (by
    intro p hp;simp only[yF]at hp;subst hp;exact⟨_,rfl,by omega⟩) (by simp) (by simp) (by simp) (by simp) e4 (by simp)
   refine⟨0,U, ?_, .inr ⟨rfl,dn.mono (by omega) (by omega)⟩⟩;have k6:ld1 (.ptr B6 0) a0=some (.ptr L 0):=(x7.mono z.ok a8 (fun x=>x)).ld;have j6:ld1 (.ptr B6 0) a9=some (.ptr L 0):=by
    refine((x7.mono z.ok a8 (fun x=>x)).mono a8.ok j4.1 (fun hc=> ?_)).ld;rcases hc with e | e | e
    .omega
    .omega
    .exact(zOO.1 e).elim
   simp(maxSteps:=999999)(disch:=omega) only[f82,eZ,b1,b2,b3,cbx,l2,l6,mkM,b4,bs,b5,b6,e7,k2.ld,a3,k3.ld,f1,e8,jS,nth,b9,e2,f2,k6,uG c9 a7,b0,kY j6 (cbx.2.2.2.2.2.2 _ _),j5]
 ·
  have d3: ¬C.at_=((0:Nat):Int):=by have:=zOw hs;omega
  have hh:=wr.low c6;obtain⟨H8,O,b8,p8,g8,m8,n8⟩:=box Z.ok (.cells [.int .i64 (0:Nat)] 3 1 false);obtain⟨H9,e9,x9,s9⟩:=Box.st (⟨_,g8⟩:Box H8 O (.int .i64 (0:Nat))) p8.ok (x:= .int .i64 (0:Nat)) rfl;obtain⟨a0,dr,d4,b7,c9,o3,j0⟩:=box s9.ok (.cells [.nilFunc] 121 1 false);obtain⟨a9,b0,f4,a4⟩:=Box.st (⟨_,c9⟩:Box a0 dr .nilFunc) b7.ok (x:=zEn O es B3 B4 dr B6) rfl;obtain⟨U,B8,d5,c0,j7,o4,j8⟩:=box a4.ok (.cells [.bool false, .nS, .nS, .nS] 119 1 false);have N8:=p8.next;have N9:=s9.next;have j1:=b7.next;have o5:=a4.next;have o6:=c0.next
  have j9:Prs m H9:=p8.fresh s9 (fun K j=>by omega);have d6:Prs m a9:=(j9.trans b7).fresh a4 (fun K j=>by omega);have a1:Prs m U:=d6.trans c0;have h1:=ch.step a1;have n0:=c7.prs a1;have h2:=c7.prs d6;have k0:Box U O (.int .i64 (0:Nat)):=((x9.mono s9.ok b7 (fun x=>x)).mono b7.ok a4 (by omega)).mono a4.ok c0 (fun x=>x);have h3:Box U dr (zEn O es B3 B4 dr B6):=f4.mono a4.ok c0 (fun x=>x);have k6:Box U B6 (.ptr L 0):=x7.mono z.ok a1 (fun x=>x);have cl:Cl k U v L B V ed O es B3 B4 dr B6 0:=⟨k0,k2.mono z.ok a1 (fun x=>x),k3.mono z.ok a1 (fun x=>x),k4.mono z.ok a1 (fun x=>x),h3,k6,hb,by omega,by omega,by omega,by omega,by omega,by omega⟩;have hold: ∀I∈H,∀K,vV I.2 K->K<k.next:=fun I c6 K j=>by
   obtain⟨o7,k1⟩:=i.pq.mem I c6;exact k1.lt j
  have d2:0<h->y.keys≠[]:=fun h0=>by
   cases h with
   | zero=>omega
   | succ h=>rw[rn.2.1];exact wr.2.1
  obtain⟨u,e,g',c2,k5,a2,⟨lu,rfl,a7,c8⟩,c⟩:=zMi i hold i.ds hq ho h M (M+1) (by omega) (by omega) h1 cl hs rn wr.gen wr.sz d2 (by cases h<;>trivial) (by cases h<;>trivial) (by omega) (by omega) (by simp;omega);have k7: ¬(chg L F .nS B8\/B8=O):=fun hc=>by
   rcases hc with(e | e | e) | e
   .omega
   .omega
   .exact(zOO.1 e).elim
   .omega
  have c3:c2.h.get B8=some (.cells [.bool false, .nS, .nS, .nS] 119 1 false):=by rw[a2.keep _ j8 k7];exact j7
  have h4:Box c2 B6 (.ptr L 0):=k6.mono c0.ok a2 (fun hc=>by
   rcases hc with(e | e | e) | e
   .omega
   .omega
   .exact(zOO.1 e).elim
   .omega)
  obtain⟨c1,k8,k9,a5,o8⟩:=kE a2.ok c3 (l':=lu) a7 c8;have c4:stN 4 (.ptr B8 0) (.agg lu) c2=some (jU,c1):=k8;have h5:ld1 (.ptr B6 0) c1=some (.ptr L 0):=(h4.mono a2.ok a5 (by omega)).ld;have d7:ld1 (.ptr es 0) a9=some (.ptr v 0):=(k2.mono z.ok d6 (fun x=>x)).ld;have lr:ldN 3 (.ptr v 2) a9=some (.agg (jX C)):=by rw[jW h2.gT];rfl
  have c5:=f4.ld;have d8:callV [(127,f127 (dy (M+2)) n),(126,f126 (dy (M+2)) n),(131,f131 (dy (M+2)) n)] (dy (M+2)) (zEn O es B3 B4 dr B6) [.agg (jX C)] U=some (.tuple [.agg lu, .int .i64 ((e:Nat):Int)],c2):=k5;have d9:(.func 128 [] [.ptr O 0, .ptr es 0, .ptr B3 0, .ptr B4 0, .ptr dr 0, .ptr B6 0]:AV)=zEn O es B3 B4 dr B6:=rfl;have pF:Prs k c1:=⟨a5.ok,by have:=a2.next;have:=a5.next;omega,fun K j _=>by
   have:=a2.next
   rw[a5.keep K (by omega) (by omega),a2.keep K (by omega) (fun hc=>by
    rcases hc with(e | e | e) | e
    .omega
    .omega
    .exact(zOO.1 e).elim
    .omega),a1.keep K (by omega) (fun x=>x),Z.keep K j (fun x=>x)]⟩
  rcases c with⟨rfl,l0⟩ | c
  .have t52:(((52:Nat):Int)≠((0:Nat):Int)):=by omega
   refine⟨52,c1, ?_, .inl ⟨rfl,l0,pF⟩⟩;simp(maxSteps:=999999)(disch:=omega) only[f82,eZ,b1,b2,b3,cbx,l2,l6,mkM,b4,bs,b5,b6,e7,k2.ld,a3,d3,b8,e9,d4,d9,b0,c5,d7,lr,d5,d8,jS,nth,c4,t52,ne_eq,yQ]
  cases root:ed.run (con h t)with
  | none=>
   rw[root]at c;have c:e=5:=c;subst c;refine⟨5,c1, ?_, .inr ⟨rfl,pF⟩⟩
   .simp(maxSteps:=999999)(disch:=omega) only[f82,eZ,b1,b2,b3,cbx,l2,l6,mkM,b4,bs,b5,b6,e7,k2.ld,a3,d3,b8,e9,d4,d9,b0,c5,d7,lr,d5,d8,jS,nth,c4,t50,ne_eq,yQ]
  | some kv'=>
   rw[root]at c;obtain⟨rfl,n7,f',e0,m7,d',o9,S',d,R,Fr,t',h6,o0,h7,h8,h9,f8,o1,f5,hG,l1,p0,p7,l3,e1,l4,l5,more,bg⟩:=c;have i0:=h6.stb c3 a5 (by omega) (by omega);have i1:=h7.stb c3 a5;rw[yE]at f5;subst f5;have l7:(C::S0).Nodup:=nd0;have l8:(e0++R).Nodup:=e1.nodup_iff.1 l7;have i2: ∀p∈C::S0,∃y,Qf E q [] p=some y:=fun p hp=>by
    rcases zO.1 hp with rfl | hp
    .exact⟨y,hs⟩
    .exact wL.here rn p hp
   have f6: ∀p∈e0++R,∃y,Qf E q [] p=some y:=fun p hp=>i2 p (e1.mem_iff.2 hp)
   have i3: ∀p∈e0,∃y,Qf E q [] p=some y:=fun p hp=>f6 p (qX _ hp)
   obtain⟨l9,m0,dn⟩:=zJ9 (dy (M+2)) n (by omega) i hq i0 i3 (by omega) (by omega) e3 i1 h8 h9 l3 l8 l5 l4 (fun p hp=>f6 p (qY _ hp)) (by omega) e1 (by omega) e4 l1;rw[f8]at dn;refine⟨0,l9, ?_, .inr ⟨rfl,dn.mono (by omega) (by omega)⟩⟩;simp(maxSteps:=999999)(disch:=omega) only[f82,eZ,b1,b2,b3,cbx,l2,l6,mkM,b4,bs,b5,b6,e7,k2.ld,a3,d3,b8,e9,d4,d9,b0,c5,d7,lr,d5,d8,jS,nth,c4,f2,h5,uG k9 a7,m0]
open Go.Nd (mayK putP delP lookP)
def gL (d c:AV)(E:Ev)(H:AH)(f M L:Nat)(W:Nat->Prop)(kv:Kvs)(T:List Ptr):Prop:= ∃h root es q a,isCell c=true/\TI E H f M d c root es q a h/\(∀s i,jZ s q=some i->s<=a)/\(q.length<=a/\q.length<=cp T)/\a<=L/\E.dl.length<=L/\v5 E q root kv T/\ ∀B,W B↔B=f\/B=M\/Blk h B
def uV (d c:AV)(E:Ev)(H:AH)(f M L:Nat)(W:Nat->Prop)(root:Ptr)(q:PN)(kv:Kvs)(T:List Ptr):Prop:= ∃h es a,isCell c=true/\TI E H f M d c root es q a h/\(∀s i,jZ s q=some i->s<=a)/\(q.length<=a/\q.length<=cp T)/\a<=L/\E.dl.length<=L/\v5 E q root kv T/\ ∀B,W B↔B=f\/B=M\/Blk h B
theorem uV.d {d c:AV}{E:Ev}{H:AH}{a M L:Nat}{W:Nat->Prop}{root:Ptr}{q:PN}{kv:Kvs}{T:List Ptr}(h:uV d c E H a M L W root q kv T):gL d c E H a M L W kv T:=by
 obtain⟨i,es,f,h⟩:=h;exact⟨i,root,es,q,f,h⟩
theorem gL.x {E:Ev}{a:Nat}(d:gL t G E k a h v w I i): ∃root q,uV t G E k a h v w root q I i:=by
 obtain⟨c,root,es,q,f,d⟩:=d;exact⟨root,q,c,es,f,d⟩
theorem gL.prs {d c:AV}{H H':AH}{a M L:Nat}{W:Nat->Prop}{kv:Kvs}{T:List Ptr}(h:gL d c E H a M L W kv T)(s:Prs H H'):gL d c E H' a M L W kv T:=by
 obtain⟨i,root,es,q,f,j,m,o⟩:=h;exact⟨i,root,es,q,f,j,m.prs s,o⟩
theorem gL.up (c:gL t G E k h v l w I i)(hl:l<=B):gL t G E k h v B w I i:=by
 obtain⟨j,root,es,q,a,m,o,p,s,H,h5,d,u⟩:=c;exact⟨j,root,es,q,a,m,o,p,s,by omega,by omega,d,u⟩
theorem gL.okH (d:gL t G E k h v l w I i):k.ok:=by
 obtain⟨j,root,es,q,c,m,f,_⟩:=d;exact f.ok
theorem gL.lt {d c:AV}{H:AH}{f M L:Nat}{W:Nat->Prop}{kv:Kvs}{T:List Ptr}(h:gL d c E H f M L W kv T): ∀B,W B->B<H.next:=by
 obtain⟨o,root,es,q,m,p,a,_,_,_,_,_,i⟩:=h;intro B j;rcases(i B).1 j with rfl | rfl | e
 .exact a.ok.lt a.gT
 .exact a.ok.lt a.gM
 .exact a.dg.lt e
def AdT (W:Nat->Prop)(H:AH)(a:Nat->Prop)(H':AH):Prop:=Stp W H H'/\ ∀B,a B->W B\/H.next<=B
theorem AdT.prs (s:Prs k F):AdT w k w F:=⟨s.mono fun _ _ x=>x.elim,fun _ h=> .inl h⟩
theorem AdT.trans {f i:Nat->Prop}{m:AH}(h:AdT w k f F)(W:AdT f F i m):AdT w k i m:=by
 refine⟨Stp.thr h.1 W.1 fun B a=> ?_,fun B a=> ?_⟩
 .rcases h.2 B a with e | e
  .exact .inr e
  .exact .inl e
 .have:=h.1.next
  rcases W.2 B a with e | e
  .exact h.2 B e
  .exact .inr (by omega)
structure Chd (E E':Ev)(T T':List Ptr):Prop where
 nb:E'.nb=E.nb
 ws:E'.ws=E.ws
 xx:E'.x=E.x
 bd:E'.bd=E.bd
 pm:(dsk T'++E'.dl).Perm (dsk T++E.dl)
theorem Chd.refl (E:Ev)(T:List Ptr):Chd E E T T:=⟨rfl,rfl,rfl,rfl,List.Perm.refl _⟩
theorem Chd.trans {E a f:Ev}{T i j:List Ptr}(h:Chd E a T i)(k:Chd a f i j):Chd E f T j:=⟨k.nb.trans h.nb,k.ws.trans h.ws,k.xx.trans h.xx,k.bd.trans h.bd,k.pm.trans h.pm⟩
theorem zJP.treeD {L:Nat}(H':zJP E k F h v t G Q l B I i)(a:isCell G=true)(f: ∀M,w M↔M=h\/M=v\/Blk Q M)(hL:B<=L)(hd:E.dl.length+100<=L):
  ∃s low c,gL t G s F h v L low I c/\AdT w k low F/\Chd E s i c:=by
 obtain⟨gl,root,es,q,u,o,c,y,z,C,H0,h5,N,O,m,d,J⟩:=H';have K:=zDi E gl;refine⟨E.drop gl,fun M=>M=h\/M=v\/Blk o M,c,⟨o,root,es,q,u,a,y,H0,h5,by omega,by omega,m,fun M=>Iff.rfl⟩,⟨z.mono fun M _ j=>(f M).2 j,fun M j=> ?_⟩,⟨rfl,rfl,rfl,rfl,d⟩⟩;rcases j with e | e | e
 .exact .inl ((f M).2 (.inl e))
 .exact .inl ((f M).2 (.inr (.inl e)))
 .rcases C M e with x | x
  .exact .inl ((f M).2 (.inr (.inr x)))
  .exact .inr x
def ZF (k v:Str):Bool:=mayK k&&decide (v.length<=200)
theorem zLo (N: ¬E.bd)(m n:Nat)(hm:300000000<=m)(V:300000000<=n){L:Nat}{k v:Str}(d:gL t G E F h l L w I i)(hL:L<=500000000)(O:I.length<=1000000000):
  ∃H' W j o,f38 (dy (m+2)) n [.ptr h 0,S k,S v] F=some (.int .i64 (if ZF k v then 0 else 1:Nat),H')/\gL t G W H' h l (L+200) j (if ZF k v then putP k v I else I) o/\AdT w F j H'/\Chd E W i o:=by
 obtain⟨dr,root,es,q,a0,Y,H,Z,c,h4,a4,h5,hW⟩:=id d;obtain⟨H1,A4,b1,u,g1,m1,n1⟩:=box H.ok (.cells [S k] 9 1 false);obtain⟨p,M,b2,J,g2,m2,n2⟩:=box u.ok (.cells [S v] 9 1 false);have s:=u.trans J;have y:=H.prs s;have x4:Box p A4 (S k):=⟨_,zOM J u.ok g1⟩;have x:Box p M (S v):=⟨_,g2⟩;have z:=QM (dy (m+2)) n y;by_cases hp:ZF k v=true
 .obtain⟨C,Q⟩:mayK k=true/\v.length<=200:=by simpa[ZF]using hp
  obtain⟨e,K,e3,a⟩:=zB7 m n hm V (ed:= .put k v) y Z c.1 (by omega) h5 (by omega) O ⟨C,Q⟩ ⟨x4,x⟩ c.2
  replace a:=a.resolve_left fun f=>N f.2.1
  simp only[Ed.run]at a;obtain⟨rfl,dn⟩:=a;obtain⟨W,j,o,d1,d2,d3⟩:=dn.treeD Y hW (L:=L+200) (by omega) (by omega);simp only[Nd.mayK,zF,zQ]at C;refine⟨K,W,j,o, ?_,by rw[if_pos hp];exact d1,(AdT.prs s).trans d2,d3⟩;have a1: ¬(k.length:Int)< ((1:Nat):Int):=by omega
  have a2: ¬((40:Nat):Int)< (k.length:Int):=by omega
  have a3: ¬((200:Nat):Int)< (v.length:Int):=by omega
  have U:f82 (dy (m+2)) n [.ptr h 0,S k, .func 88 [] [.ptr A4 0, .ptr M 0]] p=some (.int .i64 (0:Nat),K):=e3;simp(maxSteps:=999999)(disch:=omega) only[f38,eZ,cbx,b1,b2,z,x4.ld,x.ld,a1,a2,a3,U,hp]
 .refine⟨p,E,w,i, ?_,by rw[if_neg hp];exact(d.prs s).up (by omega),AdT.prs s,Chd.refl E i⟩;have hx:(k.length:Int)< ((1:Nat):Int)\/((40:Nat):Int)< (k.length:Int)\/((200:Nat):Int)< (v.length:Int):=by
   simp only[ZF,Nd.mayK,zF,zQ]at hp;omega
  simp(maxSteps:=999999)(disch:=omega) only[f38,eZ,cbx,b1,b2,z,x4.ld,x.ld,hp];rw[if_pos (by simpa[or_assoc]using hx)];rfl
def hH (k:Str)(kv:Kvs):Nat:=if mayK k then(if(lookP k kv).isSome then 0 else 5)else 1
theorem zH0 (m n:Nat)(hm:300000000<=m)(K:300000000<=n){L:Nat}{k:Str}(d:gL t G E F h v L w I i)(hL:L<=500000000)(c:I.length<=1000000000):
  (E.bd/\ ∃H',f29 (dy (m+2)) n [.ptr h 0,S k] F=some (.int .i64 (52:Nat),H')/\Prs F H')\/ ∃H' p s u,f29 (dy (m+2)) n [.ptr h 0,S k] F=some (.int .i64 (hH k I:Nat),H')/\gL t G p H' h v (L+200) s (if hH k I=0 then delP k I else I) u/\AdT w F s H'/\Chd E p i u:=by
 obtain⟨dr,root,es,q,a0,N,C,O,H,h4,a3,h5,Q⟩:=id d;obtain⟨x,A4,b1,f,U,m1,n1⟩:=box C.ok (.cells [S k] 9 1 false);have y:=C.prs f;have x4:Box x A4 (S k):=⟨_,U⟩;have z:=QM (dy (m+2)) n y;by_cases hp:mayK k=true
 .obtain⟨e,o,Y,kv⟩:=zB7 m n hm K (V:=0) (ed:= .del k) y O H.1 (by omega) h5 (by omega) c hp x4 H.2;have W:=hp;simp only[Nd.mayK,zF,zQ]at W;have Z: ¬(k.length:Int)< ((1:Nat):Int):=by omega
  have a2: ¬((40:Nat):Int)< (k.length:Int):=by omega
  have J:f82 (dy (m+2)) n [.ptr h 0,S k, .func 83 [] [.ptr A4 0]] x=some (.int .i64 e,o):=Y;have run:f29 (dy (m+2)) n [.ptr h 0,S k] F=some (.int .i64 e,o):=by
   simp(maxSteps:=999999)(disch:=omega) only[f29,eZ,cbx,b1,z,x4.ld,Z,a2,J,hp]
  rcases kv with⟨rfl,hb,M⟩ | kv
  .exact .inl ⟨hb,o,run,f.trans M⟩
  refine .inr ?_
  cases hr:(Ed.del k).run I with
  | none=>
   rw[hr]at kv;obtain⟨rfl,M⟩:=kv;have hl:(lookP k I).isSome=false:=by
    simp only[Ed.run]at hr;split at hr
    .cases hr
    .rename_i j;simpa using j
   have a:hH k I=5:=by simp only[hH,hp,if_true,hl,zM,qE]
   refine⟨o,E,w,i,by rw[a];exact run,by rw[a];exact(d.prs (f.trans M)).up (by omega),AdT.prs (f.trans M),Chd.refl E i⟩
  | some kv'=>
   rw[hr]at kv;obtain⟨rfl,dn⟩:=kv;obtain⟨p,s,u,d1,d2,d3⟩:=dn.treeD N Q (L:=L+200) (by omega) (by omega);have hl:(lookP k I).isSome=true/\delP k I=kv':=by
    simp only[Ed.run]at hr;split at hr
    .rename_i j;exact⟨j,by simpa using hr⟩
    .cases hr
   have a:hH k I=0:=by simp only[hH,hp,if_true,hl.1]
   refine⟨o,p,s,u,by rw[a];exact run,by rw[a,if_pos rfl,hl.2];exact d1,(AdT.prs f).trans d2,d3⟩
 .have a:hH k I=1:=by simp only[hH,hp,zM,qE]
  refine .inr ⟨x,E,w,i, ?_,by rw[a];exact(d.prs f).up (by omega),AdT.prs f,Chd.refl E i⟩;rw[a];have hx:(k.length:Int)< ((1:Nat):Int)\/((40:Nat):Int)< (k.length:Int):=by
   simp only[Nd.mayK,zF,zQ]at hp;omega
  simp(maxSteps:=999999)(disch:=omega) only[f29,eZ,cbx,b1,z,x4.ld];rw[if_pos (by simpa using hx)];rfl
theorem zMk (o: ¬E.bd)(m n:Nat)(hm:300000000<=m)(q:300000000<=n){k:Str}(d:gL t G E F h v l w I i)(hL:l<=500000000)(p:I.length<=1000000000):
  ∃H' f H j,f29 (dy (m+2)) n [.ptr h 0,S k] F=some (.int .i64 (hH k I:Nat),H')/\gL t G f H' h v (l+200) H (if hH k I=0 then delP k I else I) j/\AdT w F H H'/\Chd E f i j:=(zH0 m n hm q d hL p).resolve_left fun c=>o c.1
end Go.Eng.Sh
end
section
namespace Go.Eng
def Stk (k e:Nat)(H:AH)(v:AV)(n:Nat)(l:List AV):Prop:=
 l.length=n*k/\((v= .nS/\n=0)\/ ∃A cc cells g r,v= .slice A 0 n cc/\A<H.next/\H.h.get A=some (.cells cells e k g)/\cells.length=r*k/\n<=r/\cells.take (n*k)=l/\(cc=2*r\/(cc=1/\g=true)))
theorem Stk.row (n:Stk h v k t l e):Rw h k t l e:=by
 obtain⟨a,⟨rfl,rfl⟩ | ⟨A,cc,cells,g,r,rfl,f,i,hl,j,m,_⟩⟩:=n
 .exact⟨a, .inl ⟨rfl,rfl⟩⟩
 .have:=yR h j;exact⟨a, .inr (.inr ⟨A,0,cc,cells,v,h,g,rfl,i,f,by omega,by rw[yD];exact m⟩)⟩
theorem Stk.mono (n:Stk h v k t l e)(s:Stp w k F)(i: ∀A,Blk t A-> ¬w A):Stk h v F t l e:=by
 obtain⟨a,j | ⟨A,cc,cells,g,r,rfl,f,m,o⟩⟩:=n
 .exact⟨a, .inl j⟩
 .exact⟨a, .inr ⟨A,cc,cells,g,r,rfl,qI f s.next,by rw[s.keep A f (i A (zOG.2 rfl))];exact m,o⟩⟩
theorem Stk.lt (n:Stk h v k t l e)(a:Blk t B):B<k.next:=by
 obtain⟨i,⟨rfl,rfl⟩ | ⟨A,cc,cells,g,r,rfl,f,j,m⟩⟩:=n
 .exact(zOO.1 a).elim
 .rw[zOG.1 a];exact f
theorem Stk.isCell {k e n:Nat}{H:AH}{v:AV}{l:List AV}(h:Stk k e H v n l):isCell v=true:=h.row.isCell
theorem Stk.room (a:0<h)(hl:e.length=l*h)(f:v=2*l\/(v=1/\u=true)):kS e u h 0 v h=l:=by
 rcases f with rfl | ⟨rfl,rfl⟩
 .simp only[kS,show((2*l) % 2).beq 0=true by rw[jE];rfl,zU,yV l (show 0<2 by omega)]
 .simp only[kS,show((1 % 2).beq 0)=false from rfl,yM,yO,show Nat.beq 0 (1 / 2*h)=true from by simp,qO,zU,kG,hl,jF];exact Nat.mul_div_cancel _ a
theorem Stk.cut (n:Stk h v k t l e)(m:0<h)(hi:B<=l)(κ:IntKind):
  ∃r,vD h t none (some (.int κ (B:Nat))) none k=some r/\Stk h v k r B (e.take (B*h))/\ ∀i,Blk r i->Blk t i:=by
 have f:=kQ κ (z:=(B:Int)) (by omega);simp only[yI]at f;have hb:Nat.blt 0 h=true:=by rw[qD];exact m
 have H:B*h<=l*h:=yR _ hi;obtain⟨u,⟨rfl,rfl⟩ | ⟨A,cc,cells,g,r,rfl,q,j,hl,C,x,s⟩⟩:=n
 .obtain rfl:B=0:=by omega
  exact⟨.nS,by simp only[vD,kX,f];simp,⟨by simp, .inl ⟨rfl,rfl⟩⟩,fun i a=>a⟩
 .have b1:Nat.ble B r=true:=by rw[qT];omega
  have b2:Nat.ble 0 B=true:=by rw[qT];omega
  have hr:=Stk.room m hl s;have o:(e.take (B*h)).length=B*h:=by rw[qC,u];omega
  have p:cells.take (B*h)=e.take (B*h):=by rw[<-x,List.take_take,Nat.min_eq_left H]
  rcases s with rfl | ⟨rfl,rfl⟩
  .refine⟨.slice A 0 B (2*r), ?_,⟨o, .inr ⟨A,2*r,cells,g,r,rfl,q,j,hl,by omega,p, .inl rfl⟩⟩,fun i a=>by rw[zOG.1 a];exact zOG.2 rfl⟩;have y:(2*r) / 2=r:=yV r (show 0<2 by omega);simp only[vD,kX,f,j,hb,zU,YQ,hr,Option.getD_none,yB,b1,b2,qO,show((2*r) % 2).beq 0=true by rw[jE];rfl,kI,Nat.zero_mul,Nat.add_zero,jF,y]
   cases Nat.beq r 0<;>rfl
  .refine⟨.slice A 0 B 1, ?_,⟨o, .inr ⟨A,1,cells,true,r,rfl,q,j,hl,by omega,p, .inr ⟨rfl,rfl⟩⟩⟩,fun i a=>by rw[zOG.1 a];exact zOG.2 rfl⟩;simp only[vD,kX,f,j,hb,zU,YQ,hr,Option.getD_none,yB,b1,b2,qO,show((1 % 2).beq 0)=false from rfl,yM,kI,show Nat.beq 0 0=true from rfl]
theorem Stk.app {bytes m:Nat}{new:List AV}(j:k.ok)(q:0<h)(n:Stk h v k t l e)(L:srcOf h G k=some (m,new))(hm:new.length=m*h)(M:jV new=true)(Y:m=1)(x:l+m<=1000000000)(hb:bytes<=1000):
  ∃a H',apP v h bytes t G k=some (a,H')/\Stk h v H' a (l+m) (e++new)/\Stp (Blk t) k H'/\ ∀B,Blk a B->Blk t B\/k.next<=B:=by
 suffices hx: ∃a H',app1 v h bytes m new t k=some (a,H')/\Stk h v H' a (l+m) (e++new)/\Stp (Blk t) k H'/\ ∀B,Blk a B->Blk t B\/k.next<=B by
  obtain⟨a,H',N,O⟩:=hx;exact⟨a,H',by simp only[apP,L,M,zU,N],O⟩
 have own: ∀ {H':AH},Own h v H' (.slice k.next 0 (l+m) 1) (l+m) (e++new)->Stk h v H' (.slice k.next 0 (l+m) 1) (l+m) (e++new):=fun {H'} Q=>by
  obtain⟨F,⟨q1,_⟩ | ⟨A,q1,q2,q3⟩⟩:=Q
  .cases q1
  .exact⟨F, .inr ⟨A,1,_,true,l+m,q1,q2,q3,F,zP _,zZ (by omega), .inr ⟨rfl,rfl⟩⟩⟩
 have Z:=n;obtain⟨f,⟨rfl,rfl⟩ | ⟨A,cc,cells,g,r,rfl,o,y,hl,J,z,u⟩⟩:=n
 .obtain rfl:e=[]:=zR (by simpa using f);obtain⟨H',S,T,U,e4⟩:=J7 (k:=h) (e:=v) (bytes:=bytes) (new:=new) (n:=0) (m:=m) j q (zOP h v k) hm (by omega) x hb;exact⟨_,H',S,own T,U,fun B i=> .inr (by rw[zOG.1 i];exact zP _)⟩
 .have hr:=Stk.room q hl u;have W:=yR h J;by_cases p:l+m<=r
  .have b1:Nat.ble (l+m) r=true:=by rw[qT];exact p
   have V:Nat.blt 0 h=true:=by rw[qD];exact q
   have s:=yR h p;rw[jB]at s;have I:setAt cells (0+l*h) new=some (cells.take (l*h)++new++cells.drop (l*h+m*h)):=by rw[xL (by omega),hm];simp only[j7]
   have H:(cells.take (l*h)).length=l*h:=by rw[z,f]
   refine⟨.slice A 0 (l+m) cc,k.put A (.cells (cells.take (l*h)++new++cells.drop (l*h+m*h)) v h g), ?_,⟨by simp[f,hm,jB], .inr ⟨A,cc,_,g,r,rfl,o,by rw[zOF,if_pos rfl], ?_,p, ?_,u⟩⟩,(zOJ j).put o _ (.inr (zOG.2 rfl)),fun B i=> .inl (by rw[zOG.1 i];exact zOG.2 rfl)⟩
   .simp only[app1,y,zEz,hr,b1,zU,V,I,zBp,wR,kI]
   .simp only[zV,H,hm,qJ];omega
   .rw[z,List.take_append_of_le_length (by simp[f,hm,jB]),zZ (by simp[f,hm,jB])]
  .have b1:Nat.ble (l+m) r=false:=by rw[yA];intro v;rw[qT]at v;omega
   have C:uW cells 0 (l*h)=some e:=by rw[kZ _ _ _ (.inr (by omega)),yD,z]
   rcases u with rfl | ⟨rfl,rfl⟩
   .refine⟨.slice k.next 0 (l+m) 1,k.push (.cells (e++new) v h true), ?_,own ⟨by simp[f,hm,jB], .inr ⟨k.next,rfl,Nat.lt_succ_self _,zOB _ _⟩⟩,(zOJ j).push _,fun B i=> .inr (by rw[zOG.1 i];exact zP _)⟩
    simp only[app1,y,zEz,hr,b1,yM,show((2*r) % 2).beq 0=true by rw[jE];rfl,zU,C,vR,cG x hb,cT,aN j,kI]
   .obtain rfl:l=r:=by omega
    have H:Nat.beq (0+l*h) (aR cells 0)=true:=by rw[kG,hl,j7,yO]
    have K:(k.put A .dead).ok:=j.put o _;refine⟨.slice k.next 0 (l+m) 1,(k.put A .dead).push (.cells (e++new) v h true), ?_,own ⟨by simp[f,hm,jB], .inr ⟨k.next,rfl,Nat.lt_succ_self _,zOB (k.put A .dead) _⟩⟩,((zOJ j).put o _ (.inr (zOG.2 rfl))).push _,fun B i=> .inr (by rw[zOG.1 i];exact zP _)⟩
    simp only[app1,y,zEz,hr,b1,yM,show((1 % 2).beq 0)=false from rfl,H,yO,show Nat.beq 0 (1 / 2*h)=true from by simp,qO,zU,wR,C,vR,
     cG x hb,cT,aN K,kI,zOD]
end Go.Eng
end
section
namespace Go.Eng.Sh
open Go.Nd (Ptr sumL)
end Go.Eng.Sh
end
section
namespace Go.Eng
end Go.Eng
namespace Go.Eng.Sh
open Go.Nd (Ptr sumL)
open Go.Nd (Str leafOf Kvs Srt mayK putP delP lookP)
open Go.Bt
variable {E:Ev}
def zNt (key:Str)(l:Kvs):Option (Str×Str):=l.find? fun p=> !ltS p.1 key
theorem XG {key:Str} : ∀ {l:Kvs},Srt l->zNt key l=l[Nd.whereN (leafOf l) key]?
 | [],_=>rfl
 | (a,b)::l,h=>by
  rw[Nd.where_cons h];simp only[zNt,List.find?_cons]
  cases hb:ltS a key with
  | true=>
   simp only[Bool.not_true,if_true,yW];exact XG h.2
  | false=>simp
def Item (E:Ev)(q:PN)(p:Ptr)(c:Kvs)(w:Nat):Prop:= ∃a h,∃t:Bt.Tr h,∃S lo hi,Qf E q [] p=some a/\wL (Qf E q []) h a t S/\Gen h lo hi t/\(0<h->a.keys≠[])/\wM h t<=500/\c=con h t/\w=1+S.length
def BH (E:Ev)(q:PN):List Ptr->Kvs->Nat->Prop
 | [],c,w=>c=[]/\w=0
 | p::ps,c,w=> ∃c1 c2 a f,Item E q p c1 a/\BH E q ps c2 f/\c=c1++c2/\w=a+f
theorem BH.app {q:PN}{i:List Ptr}{c':Kvs}{f:Nat}(j:BH E q i c' f): ∀ {h:List Ptr} {c:Kvs} {w:Nat},BH E q h c w->BH E q (h++i) (c++c') (w+f)
 | [],_,_,⟨e1,e2⟩=>by subst e1;subst e2;simpa using j
 | p::h,_,_,⟨c1,c2,w1,w2,a,b,e1,e2⟩=>⟨c1,c2++c',w1,w2+f,a,BH.app j b,by rw[e1];simp,by omega⟩
theorem BH.len {q:PN} : ∀ {a:List Ptr} {c:Kvs} {w:Nat},BH E q a c w->a.length<=w
 | [],_,_,_=>by simp
 | p::a,_,_,⟨c1,c2,w1,w2,⟨_,_,_,_,_,_,_,_,_,_,_,_,e⟩,b,e1,e2⟩=>by
  have:=BH.len b;simp only[zY];omega
theorem zDY {k k':UInt8}{x f:Str}(hb:h<=2147483647)(i:v<=2147483647)(e:Bk.sealB k h x=Bk.sealB k' v f):h=v:=by
 obtain⟨_,q2,_,_⟩:=Bk.seal_parts (kind:=k) (birth:=h) (body:=x);obtain⟨_,b,_,_⟩:=Bk.seal_parts (kind:=k') (birth:=v) (body:=f);rw[e,b]at q2;have hl:=congrArg Nd.bee q2;rw[Nd.bee_be,Nd.bee_be,Nat.mod_eq_of_lt (by omega),Nat.mod_eq_of_lt (by omega)]at hl;exact hl.symm
theorem dQ: ∀l:List Ptr,(l.flatMap jX).length=l.length*3
 | []=>rfl
 | p::l=>by
  rw[qL,zV,dQ l,zY];show 3+l.length*3=_;omega
def geR:Option Str->AV
 | none=> .tuple [.str 0 0, .int .i64 (5:Nat)]
 | some v=> .tuple [S v, .int .i64 (0:Nat)]
theorem zIF {key:Str}{t:Bt.Tr (h+1)}(g:Gen (h+1) j m t){x:Bt.Tr h}(a:t.2[wY t.1 key]? =some x):lookP key (con (h+1) t)=lookP key (con h x):=by
 obtain⟨f,i⟩:=JD (key:=key) (ks:=t.1) (ts:=t.2) g;have:con (h+1) t=(t.2.take (wY t.1 key)).flatMap (con h)++con h x++(t.2.drop (wY t.1 key+1)).flatMap (con h):=by
  have e:t.2=t.2.take (wY t.1 key)++[x]++t.2.drop (wY t.1 key+1):=VU a;simp only[con]
  conv=>lhs;rw[e]
  simp only[jK,qL,List.flatMap_nil,qW]
 rw[this,zCS f i]
def GI (E:Ev)(m:AH)(q:PN)(kv:Kvs)(key:Str)(o a f:Nat)(k:Nat)(s:List AV)(H':AH):Prop:=
 ∃j p i h,∃t:Bt.Tr h,∃(u:List Ptr) (lo hi:Bd),s=[.ptr o 0,S key, .ptr a 0, .int .i64 f, .int .i64 ((j:Nat):Int)]/\k+j=f/\h<k/\Stp (fun B=>B=a) m H'/\H'.h.get a=some (.cells (jX p) 42 1 false)/\Qf E q [] p=some i/\wL (Qf E q []) h i t u/\Gen h lo hi t/\wM h t<=500/\lookP key kv=lookP key (con h t)
def GQ (E:Ev)(H:AH)(kv:Kvs)(key:Str)(e:Ex)(H':AH):Prop:=Prs H H'/\(e= .ret (geR (lookP key kv))\/E.bd/\e= .ret (.tuple [.str 0 0, .int .i64 (52:Nat)]))
theorem zIT (m n:Nat)(hn:300000000<=n){key:Str}(ti:TI E k h v t G C H q B Q)(c9:q.length<=90000000)(p4:Prs k F)(m6:k.next<=l)(l6:l<F.next):
  ∀T us H',GI E F q I key h l (8192+q.length) T us H'->Fin (zC8 (dy (m+1)) n us H') (orN (fun vs' b1=> ∃k',k'<T/\GI E F q I key h l (8192+q.length) k' vs' b1) (GQ E k I key)):=by
 intro T us H' ⟨j,p,a,M,b0,S0,lo,hi,b2,d0,d1,stp,a2,hs,rn,gen,hz,a3⟩;subst b2;have N4:=p4.next;have N':=stp.next
 have P':Prs k H':=p4.fresh stp (fun a8 es=>by omega);have b3:=ti.prs P';have U:(j:Int)< ((8192+q.length:Nat):Int):=by omega
 have V:ldN 3 (.ptr l 0) H'=some (.agg (jX p)):=by rw[jW a2];rfl
 obtain⟨lR,H5,re,W,At,⟨b4,b5⟩,b7⟩:=zBM m n (by omega) b3 hs;rcases b7 with⟨rfl,root,_⟩ | ⟨rfl,b8⟩
 rotate_left
 .obtain⟨H6,dr,N,f,g6,b9,n6⟩:=box At.ok (.cells [.bool false, .nS, .nS, .nS] 119 1 false);obtain⟨o,e7,z,kv,n7⟩:=kE f.ok g6 (l':=lR) b4 b5;have L:stN 4 (.ptr dr 0) (.agg lR) H6=some (jU,o):=e7;have N5:=At.next;have N6:=f.next;have N7:=kv.next
  have t52:((52:Nat):Int)≠((0:Nat):Int):=by omega
  refine⟨.ret (.tuple [.str 0 0, .int .i64 (52:Nat)]),o, ?_,P'.trans ((At.trans f).fresh kv (fun a8 es=>by omega)), .inr ⟨b8,rfl⟩⟩;simp(maxSteps:=999999)(disch:=omega) only[zC8,eZ,U,V,W,jS,nth,N,L,t52,ne_eq,yQ]
 obtain⟨ks,S,J,he,_⟩:=id root;simp only[AV.agg.injEq]at he;subst he;obtain⟨H6,dr,N,f,g6,b9,n6⟩:=box At.ok (.cells [.bool false, .nS, .nS, .nS] 119 1 false);have a6:jV [.bool a.leaf,ks,S,J]=true:=by obtain⟨_,h1,_,h3⟩:=dH root;exact h3
 obtain⟨o,e7,z,kv,n7⟩:=kE f.ok g6 (l':=[.bool a.leaf,ks,S,J]) rfl a6;have L:stN 4 (.ptr dr 0) (.agg [.bool a.leaf,ks,S,J]) H6=some (jU,o):=e7;have N5:=At.next;have N6:=f.next;have N7:=kv.next
 have K:Prs H' o:=(At.trans f).fresh kv (fun a8 es=>by omega);have Z:kN o (.agg [.bool a.leaf,ks,S,J]) a:=(root.prs f).stp kv (fun a8 es e=>by have:=root.lt es;omega);have a4:small a:=xW (by rw[rn.size];omega);have f0:ld1 (.ptr dr 0) o=some (.bool a.leaf):=by rw[jR z];rfl
 have a0: ¬(((0:Nat):Int)≠((0:Nat):Int)):=by omega
 have c0:(j:Int)+((1:Nat):Int)=((j+1:Nat):Int):=by omega
 cases M with
 | zero=>
  obtain⟨rfl,rfl⟩:=rn;have c1:(leafOf (b0:Kvs)).leaf=true:=rfl;rw[c1]at f0;obtain⟨O,s,u⟩:=zIV (dy (m+1)) n (by omega) K.ok (key:=key) Z.node a4;have c2:Nd.getN (leafOf (b0:Kvs)) key=lookP key I:=by rw[a3];exact Nd.get_leaf _ _
  rw[c2]at s;refine⟨.ret (geR (lookP key I)),O, ?_,P'.trans (K.trans u), .inl rfl⟩
  cases hl:lookP key I with
  | none=>
   rw[hl]at s;simp(maxSteps:=999999)(disch:=omega) only[zC8,eZ,U,V,W,jS,nth,N,L,a0,f0,uG z rfl,s,Option.isSome_none,geR]
  | some y=>
   rw[hl]at s;simp(maxSteps:=999999)(disch:=omega) only[zC8,eZ,U,V,W,jS,nth,N,L,a0,f0,uG z rfl,s,jM,yB,geR]
 | succ M=>
  obtain⟨r1,r2,r3,r4⟩:=id rn;rw[r1]at f0;obtain⟨O,s,u⟩:=YR (dy (m+1)) n (by omega) K.ok (key:=key) Z.node a4;have hw:Nd.whereN a key=wY b0.1 key:=d6 r1 r2 key;rw[hw]at s;have d2:=JF b0.1 key;have hl:=gen.2.2.len;have c3:wY b0.1 key<b0.2.length:=by omega
  have a1:=zK c3;have a7:=zIF (key:=key) gen a1;have wk:=KB.at gen.2.2 a1;obtain⟨Y,c4,Sa,Si,Sb,k1,k2,k3,_,_,_⟩:=r4.at a1;generalize wY b0.1 key=wi at*
  have c5:=Z.prs u;obtain⟨d3,vs',d4,ee,j1,j2,j3⟩:=c5;simp only[AV.agg.injEq,y9,and_true,true_and]at ee;obtain⟨rfl,rfl,rfl⟩:=ee;have d5:=r4.len;obtain⟨qk,ik,a5⟩:=bY.at (l:=a.kids) j3.row (i:=wi) (by omega);have c6:a.kids[wi]'(by omega)=Y:=by
   rw[zK (by omega)]at k1;exact yG k1
  rw[c6]at a5;have N8:=u.next
  have f3:ld1 (.ptr dr 3) o=some J:=by rw[jR z];rfl
  have c7:ld1 (.ptr dr 3) O=some J:=by rw[jR (zOM u K.ok z)];rfl
  have a9:O.h.get l=some (.cells (jX p) 42 1 false):=zOM (K.trans u) stp.ok a2;obtain⟨H9,e9,g9,s9,_⟩:=kE u.ok a9 (l':=jX Y) rfl rfl;have c8:stN 3 (.ptr l 0) (.agg (jX Y)) O=some (jU,H9):=e9;have N9:=s9.next
  refine⟨.norm _,H9, ?_,T - 1,by omega,j+1,Y,c4,M,b0.2[wi],Si,_,_,rfl,by omega,by omega,⟨s9.ok,by omega,fun a8 es hS=> ?_⟩,g9,k2,k3,wk.gen,wk.sz,by rw[a3,a7]⟩
  .simp(maxSteps:=999999)(disch:=omega) only[zC8,eZ,U,V,W,jS,nth,N,L,a0,f0,f3,uG z rfl,s,kY c7 (kR j3.row),ik,a5,c8,c0]
  .rw[s9.keep a8 (by omega) hS,u.keep a8 (by omega) (fun x=>x),K.keep a8 (by omega) (fun x=>x)];exact stp.keep a8 es hS
theorem zLQ (m n:Nat)(hn:300000000<=n)(key:Str)(H:gL t G E k h v l w I i)(hL:l<=90000000)(N:I.length<=1000000000):
  ∃H' r,f27 (dy (m+1)) n [.ptr h 0,S key] k=some (r,H')/\Prs k H'/\(r=(if mayK key then geR (lookP key I)else .tuple [.str 0 0, .int .i64 (1:Nat)])\/E.bd/\r= .tuple [.str 0 0, .int .i64 (52:Nat)]):=by
 obtain⟨dr,root,es,q,a0,hc,a,h2,h3,h4,a3,h5,hW⟩:=id H;have j:=QM (dy (m+1)) n a;by_cases hp:mayK key=true
 .have O:=hp;simp only[Nd.mayK,zF,zQ]at O;have x: ¬(key.length:Int)< ((1:Nat):Int):=by omega
  have y: ¬((40:Nat):Int)< (key.length:Int):=by omega
  have o:ld1 (.ptr h 2) k=some (.int .i64 root.at_):=by rw[jR a.gT];rfl
  rw[if_pos hp];rcases h5 with⟨rfl,rfl,_⟩ | ⟨c,nd,z,S0,C,rn,wr,nd0,rfl,_⟩
  .have J:pZ.at_=((0:Nat):Int):=rfl;rw[J]at o;refine⟨k,_, ?_,zOJ a.ok, .inl rfl⟩;have Q:lookP key []=none:=rfl;rw[Q];simp(maxSteps:=999999)(disch:=omega) only[f27,eZ,j,x,y,o,geR]
  .have a4:=zOw C;have U: ¬root.at_=((0:Nat):Int):=by omega
   have hh:=wr.low N;have lr:ldN 3 (.ptr h 2) k=some (.agg (jX root)):=by rw[jW a.gT];rfl
   obtain⟨H1,p,b1,s,g1,m1,n1⟩:=box a.ok (.cells [.int .i64 (0:Nat), .int .i64 (0:Nat), .int .u64 (0:Nat)] 42 1 false);obtain⟨L,e2,g2,u,n2⟩:=kE s.ok g1 (l':=jX root) rfl rfl;have V:stN 3 (.ptr p 0) (.agg (jX root)) H1=some (jU,L):=e2;have N1:=s.next;have N2:=u.next
   have F:Prs k L:=s.fresh u (fun B hB=>by omega);have K:=zFQ (dy (m+1)) n (a.prs F);obtain⟨e,f,e5,d,Y⟩:=Fin.loop (GI E L q (con c z) key h p (8192+q.length)) (zIT m n hn a (by omega) F (by omega) (by omega)) n (8192+q.length) [.ptr h 0,S key, .ptr p 0, .int .i64 (8192+q.length:Nat), .int .i64 (0:Nat)] L
    ⟨0,root,nd,c,z,S0,none,none,rfl,by omega,by omega,zOJ u.ok,g2,C,rn,wr.gen,wr.sz,rfl⟩ (by omega)
   have M:f27 (dy (m+1)) n [.ptr h 0,S key] k=fG (jb 0 (some (e,f)) (zO1 (dy (m+1)) n)):=by
    simp(maxSteps:=999999)(disch:=omega) only[f27,eZ,j,x,y,o,U,lr,b1,V,K,e5]
   rcases Y with rfl | ⟨Z,rfl⟩
   .exact⟨f,_,M,d, .inl rfl⟩
   .exact⟨f,_,M,d, .inr ⟨Z,rfl⟩⟩
 .rw[if_neg hp];refine⟨k,_, ?_,zOJ a.ok, .inl rfl⟩;have hx:(key.length:Int)< ((1:Nat):Int)\/((40:Nat):Int)< (key.length:Int):=by
   simp only[Nd.mayK,zF,zQ]at hp;omega
  simp(maxSteps:=999999)(disch:=omega) only[f27,eZ,j];rw[if_pos (by simpa using hx)];rfl
end Go.Eng.Sh
end
section
namespace Go.Eng
theorem zJu {m:Int} : ∀ {a:AV},aveq (.int z m) a=true->a= .int z m:=by
 intro a h
 cases a<;>simp only[aveq]at h
 case int k κ=>
  rw[zF]at h;have f:=h.1;have i:=h.2;rw[xQ]at f;rw[xS]at i;simp only[zQ,beq_iff_eq]at f i;subst f;subst i;rfl
 all_goals cases h
theorem zBk (κ:IntKind)(m j:Int):aveq (.int κ j) (.int κ m)=decide (j=m):=by
 have:keq κ κ=true:=by rw[xQ];simp
 simp only[aveq,this,Bool.true_and,xS];rw[yL];simp
theorem XO {κ:IntKind}{m:Int}{v:AV} : ∀ {es es':List (AV×AV)},BJ (.int κ m) v es=some es'-> ∀j:Int,vB (.int κ j) es'=if j=m then some v else vB (.int κ j) es
 | [],_,h,_=>by cases h
 | (a,b)::es,es',h,j=>by
  simp only[BJ]at h
  cases e:aveq (.int κ m) a with
  | true=>
   rw[e]at h;have o:=zJu e;subst o;obtain rfl:=yG h;simp only[vB,zBk];by_cases f:j=m
   .simp[f]
   .simp[f]
  | false=>
   rw[e]at h;simp only[yM]at h
   cases i:BJ (.int κ m) v es with
   | none=>rw[i]at h;cases h
   | some r=>
    rw[i]at h;obtain rfl:=yG h;have p:=XO i j;simp only[vB,p];by_cases f:j=m
    .subst f;simp[e]
    .simp[f]
theorem zAa {κ:IntKind}{m:Int}{v:AV} : ∀ {es:List (AV×AV)},BJ (.int κ m) v es=none-> ∀j:Int,vB (.int κ j) (es++[(.int κ m,v)])=if j=m then some v else vB (.int κ j) es
 | [],_,j=>by
  simp only[yE,vB,zBk];by_cases f:j=m<;>simp[f]
 | (a,b)::es,h,j=>by
  simp only[BJ]at h
  cases e:aveq (.int κ m) a with
  | true=>rw[e]at h;cases h
  | false=>
   rw[e]at h;simp only[yM]at h
   cases i:BJ (.int κ m) v es with
   | some r=>rw[i]at h;cases h
   | none=>
    have o:=zAa i j;simp only[qF,vB,o];by_cases f:j=m
    .subst f;simp[e]
    .simp[f]
theorem zN7 {ks:List Nat}(a:k.ok)(κ:k.h.get h=some (.map ks H))(o:YO ks ks=true){m:Int}(i:xP ks (.int z m)=true)(v:AV):
  ∃H' es',upM ks (.map h) (.int z m) v k=some (jU,H')/\H'.h.get h=some (.map ks es')/\(∀j:Int,vB (.int z j) es'=if j=m then some v else vB (.int z j) H)/\Stp (fun B=>B=h) k H'/\H'.next=k.next:=by
 cases f:BJ (.int z m) v H with
 | some es'=>
  refine⟨k.put h (.map ks es'),es', ?_,by rw[zOF,if_pos rfl],XO f,(zOJ a).put (a.lt κ) _ (.inr rfl),rfl⟩;simp only[upM,i,zU,κ,o,f,wR]
 | none=>
  refine⟨k.put h (.map ks (H++[(.int z m,v)])),_, ?_,by rw[zOF,if_pos rfl],zAa f,(zOJ a).put (a.lt κ) _ (.inr rfl),rfl⟩;simp only[upM,i,zU,κ,o,f,wR]
end Go.Eng
namespace Go.Eng.Sh
open Go.Nd (Ptr Str)
open Go.Bk
theorem zJ4(p:k.ok){nb:Nat}(G:64<=nb)(I:nb<=8192): ∃H' A m o,f32 D n [.int .i64 nb] k=some (.tuple [.ptr A 0, .int .i64 (0:Nat)],H')/\Prs k H'/\k.next<=A/\k.next<=m/\k.next<=o/\DkI H' A nb [] m o .nS []:=by
 obtain⟨J,f,b1,h,q,K,L⟩:=box p (.map [6] []);obtain⟨M,i,b2,a,s,N,O⟩:=box h.ok (.map [6] []);obtain⟨t,u,v,j,x,Q,S⟩:=box a.ok (.cells [.int .i64 nb, .map f, .nS, .map i, .int .i64 (0:Nat), .nS, .bool false] 151 1 false);have T:=h.next;have U:=a.next
 refine⟨t,u,f,i, ?_,(h.trans a).trans j,by omega,by omega,by omega,⟨x,zOM (a.trans j) h.ok q,zOM j a.ok s,zOP ..,fun n=>rfl,fun w y=>(List.not_mem_nil y).elim,by simp,by omega⟩⟩;have z: ¬(nb:Int)< ((64:Nat):Int):=by omega
 have C: ¬((8192:Nat):Int)< (nb:Int):=by omega
 have F:uO [(0,1),(1,1),(2,1),(3,1),(4,1),(5,1),(6,1)] [.int .i64 (0:Nat), .nM, .nS, .nM, .int .i64 (0:Nat), .nS, .bool false] [(0, .int .i64 nb),(1, .map f),(3, .map i)]=some (.agg [.int .i64 nb, .map f, .nS, .map i, .int .i64 (0:Nat), .nS, .bool false]):=rfl;simp(maxSteps:=999999)(disch:=omega) only[f32,f85,eZ,z,C,mkM,b1,b2,F,v]
theorem zHo (r:Nat){x c:AV}{s:List AV}(hr:e.length=512)(a:s.length=512)(h:isCell x=true):uO [(0,1),(1,512)] (c::e) [(0,x),(1, .agg s)]=some (.agg (x::s))/\Q0 r 513 1 (c::e) [(0, .agg (x::s))]=some (.cells (x::s) r 513 false,fun A=> .slice A 0 1 2):=by
 have i:setAt (c::e) 0 [x]=some (x::e):=by rw[xL (by simp)];rfl
 have j:setAt (x::e) 1 s=some (x::s):=by
  rw[xL (by simp[hr,a])];have:(x::e).drop (1+s.length)=[]:=qS (by simp[hr,a]);rw[this];simp
 have m:setAt (c::e) 0 (x::s)=some (x::s):=by
  rw[xL (by simp[hr,a])];have:(c::e).drop (0+(x::s).length)=[]:=qS (by simp[hr,a]);rw[this];simp
 have o:(aR [x] 0).beq 1=true:=rfl;have p:(aR s 0).beq 512=true:=by rw[kG,a];exact yO _
 have q:(aR (x::s) 0).beq 513=true:=by rw[kG,zY,a];exact yO _
 have t:=wE h;constructor
 .simp only[uO,fM,zK2,t,o,zU,i];simp only[kF,p,zU,j]
 .have f:rep 1 (c::e)=c::e:=by simp only[rep,qW]
  simp only[Q0,f,fM,kF,q,zU,Nat.zero_mul,m]
theorem V4(u:F.ok)(d:DkI F h v V l B t H){k:Nat}(W:k<v){b:Str}(hb:b.length=512)(hf:V.length<1000000):
  ∃H' K es',f26 D n [.ptr h 0, .int .i64 k, .agg (jT b)] F=some (.int .i64 (0:Nat),H')/\DkI H' h v (V++[(k,b)]) l B K es'/\Stp (fun i=>i=h\/i=B\/Blk t i) F H'/\(∀i,Blk K i->Blk t i\/F.next<=i):=by
 obtain⟨Z,Q⟩: ∃Z:Str,Z=List.replicate 512 0:=⟨_,rfl⟩;have Y:rep 512 [AV.int .u8 (0:Nat)]=jT Z:=by rw[dB,Q]
 have a0:(jT Z).length=512:=by rw[jY,Q];exact List.length_replicate
 obtain⟨S,A5,b1,z,g1,m1,n1⟩:=box u (.cells (jT b) 55 1 false);have q:=d.prs u z;have ha:=zKI D n q W;have a4: ¬(((0:Nat):Int)≠((0:Nat):Int)):=by omega
 have r3:Eng.ld1 (.ptr h 3) S=some (.map B):=by rw[jR q.gD];rfl
 have r2:Eng.ld1 (.ptr h 2) S=some t:=by rw[jR q.gD];rfl
 have lD:=u.lt d.gD;have lN:=u.lt d.gN;have lO:=u.lt d.gO;have L:h≠B:=fun e=>by have:=d.gD;rw[e,d.gN]at this;cases this
 have a5:h≠l:=fun e=>by have:=d.gD;rw[e,d.gO]at this;cases this
 have wA: ∀i,Blk t i->i<F.next/\i≠h/\i≠l/\i≠B:=fun i a=>by
  have g:=d.ow.get a;refine⟨u.lt g,fun e=> ?_,fun e=> ?_,fun e=> ?_⟩
  .rw[e,d.gD]at g;simp at g
  .rw[e,d.gO]at g;cases g
  .rw[e,d.gN]at g;cases g
 obtain⟨Ad,es',e2,g2,f2,s,n2⟩:=zN7 z.ok q.gN rfl (m:=(k:Int)) (keyI _) (.int .i64 V.length);have N1:=z.next
 have M:Ad.h.get h=_:=(s.keep _ (by omega) L).trans q.gD;have a6:Ad.h.get l=_:=(s.keep _ (by omega) d.ne).trans q.gO;have a7:Eng.ld1 (.ptr h 2) Ad=some t:=by rw[jR M];rfl
 have g5:Ad.h.get A5=_:=(s.keep _ (by omega) (by omega)).trans g1;have rb:=ldR g5 hb;have I:(jT b).length=512:=by rw[jY,hb]
 obtain⟨q1,q2⟩:=zHo 153 (x:= .int .i64 k) (c:= .int .i64 (0:Nat)) a0 I rfl;obtain⟨G,A6,b3,p,g3,m3,n3⟩:=box s.ok (.cells (.int .i64 k::jT b) 153 513 false);have nb:srcOf 513 (.slice A6 0 1 2) G=some (1,wV (k,b)):=by
  have a8:uW (AV.int .i64 k::jT b) 0 (1*513)=some (wV (k,b)):=by
   rw[kZ _ _ _ (.inr (by simp[I])),yD,zZ (by simp[I])];rfl
  simp only[srcOf,g3,a8]
 have N2:=s.next;have N3:=p.next
 have a9:Own 513 153 G t V.length (V.flatMap wV):=((d.ow.mono z fun _ _ x=>x).mono s fun i a=>(wA i a).2.2.2).mono p fun _ _ x=>x
 have b0:jV (wV (k,b))=true:=by
  have:=bytesV_cells b;simp only[wV,jV,this];rfl
 obtain⟨T,e4,b2,y,n4⟩:=bK (bytes:=520) (m:=1) p.ok (by decide) a9 nb (by rw[zCo hb]) b0 (by omega) (by omega) (by decide);have N4:=y.next
 have N:T.h.get h=_:=(y.keep _ (by omega) (fun a=>(wA h a).2.1 rfl)).trans ((p.keep _ (by omega) (fun x=>x)).trans M);have b5:Eng.ld1 (.ptr h 2) T=some t:=by rw[jR N];rfl
 obtain⟨U,e5,O,s5,n5⟩:=xI y.ok N (o:=2) (x:= .slice G.next 0 (V.length+1) 1) rfl (by simp)
 have b4:Eng.ld1 (.ptr h 4) U=some (.int .i64 (0:Nat)):=by rw[jR O];rfl
 refine⟨U, .slice G.next 0 (V.length+1) 1,es', ?_,⟨O, ?_, ?_, ?_,fun j=> ?_,fun w C=> ?_,by simp;omega,d.ne⟩,⟨s5.ok,by omega,fun i a J=> ?_⟩,fun i a=> .inr (by rw[zOG.1 a];omega)⟩
 .simp(maxSteps:=999999)(disch:=omega) only[f26,f75,eZ,b1,ha,a4,r3,r2,q.ow.row.lnSl,e2,a7,rb,Y,qF,yE,q1,q2,b3,e4,e5,b4]
 .rw[s5.keep _ (by omega) (fun e=>a5 e.symm),y.keep _ (by omega) (fun a=>(wA l a).2.2.1 rfl),p.keep _ (by omega) (fun x=>x)];exact a6
 .rw[s5.keep _ (by omega) (fun e=>L e.symm),y.keep _ (by omega) (fun a=>(wA B a).2.2.2 rfl),p.keep _ (by omega) (fun x=>x)];exact g2
 .have:=b2.mono s5 fun i a=>by rw[zOG.1 a];omega
  simpa[jK]using this
 .rw[f2,QR,d.nw j];by_cases e:k=j
  .subst e;simp
  .have e': ¬((j:Nat):Int)=(k:Int):=by omega
   rw[if_neg e',if_neg e]
 .rcases qB.1 C with C | C
  .exact d.ln w C
  .obtain rfl:w=(k,b):=by simpa using C
   exact hb
 .have a1: ¬i=h:=fun e=>J (.inl e)
  have a2: ¬i=B:=fun e=>J (.inr (.inl e))
  have a3: ¬Blk t i:=fun e=>J (.inr (.inr e))
  rw[s5.keep i (by omega) a1,y.keep i (by omega) a3,p.keep i (by omega) (fun x=>x),s.keep i (by omega) a2,z.keep i a (fun x=>x)]
end Go.Eng.Sh
end
section
namespace Go.Eng
theorem xR (n A off:Nat)(k:IntKind){z:Int}(i:Nat)(f:z=(i:Int))(h:i<n):vU n 1 (.ptr A off) (.int k z)=some (.ptr A (off+i)):=by
 subst f;have a:=kQ k (z:=(i:Int)) (by omega);simp only[yI]at a;have hb:Nat.blt i n=true:=by rw[qD];exact h
 simp only[vU,a,hb,zU,kI,Nat.mul_one]
end Go.Eng
namespace Go.Bk
def cnt (is:Nat->Nat)(w:Nat):Nat->Nat
 | 0=>0
 | n+1=>cnt is w n+(if is n=w then 1 else 0)
def ZD (is:Nat->Nat)(i b:Nat):Nat->Nat:=fun j=>if j=i then b else is j
theorem uD (is:Nat->Nat)(i b:Nat):ZD is i b i=b:=by simp[ZD]
theorem vL (is:l≠h):ZD A h v l=A l:=by simp[ZD,is]
theorem zB5 (is:Nat->Nat)(w:Nat): ∀n,cnt is w n<=n
 | 0=>zP _
 | n+1=>by
  have:=zB5 is w n;simp only[cnt];split<;>omega
theorem zHe {is a:Nat->Nat}{w:Nat} : ∀ {n:Nat},(∀i,i<n->(is i=w↔a i=w))->cnt is w n=cnt a w n
 | 0,_=>rfl
 | n+1,h=>by
  have j:=zHe (n:=n) fun i hi=>h i (by omega)
  have f:=h n (by omega);simp only[cnt,j];by_cases e:is n=w
  .rw[if_pos e,if_pos (f.1 e)]
  .rw[if_neg e,if_neg fun x=>e (f.2 x)]
theorem KY {is:Nat->Nat}{i a b:Nat}(p:is i=a)(m:a≠b): ∀ {n:Nat},(i<n->cnt (ZD is i b) b n=cnt is b n+1/\cnt (ZD is i b) a n+1=cnt is a n)/\(¬i<n->cnt (ZD is i b) b n=cnt is b n/\cnt (ZD is i b) a n=cnt is a n)
 | 0=>⟨fun h=>by omega,fun _=>⟨rfl,rfl⟩⟩
 | n+1=>by
  obtain⟨s,q⟩:=KY p m (n:=n);refine⟨fun h=> ?_,fun h=> ?_⟩
  .by_cases e:i=n
   .subst e;obtain⟨f,j⟩:=q (by omega);simp only[cnt,uD,if_true,f,j,p];simp[m,Ne.symm m]
   .obtain⟨f,j⟩:=s (by omega);have o:n≠i:=fun x=>e x.symm
    simp only[cnt,vL o,f];omega
  .obtain⟨f,j⟩:=q (by omega);have o:n≠i:=by omega
   simp only[cnt,vL o,f,j,and_self]
theorem zHb (f:A h=v)(is:B≠v)(m:B≠l)(n:Nat):cnt (ZD A h l) B n=cnt A B n:=by
 refine zHe fun j _=> ?_
 by_cases e:j=h
 .subst e;rw[uD,f];exact⟨fun x=>absurd x.symm m,fun x=>absurd x.symm is⟩
 .rw[vL e]
theorem zHa {is:Nat->Nat}{w:Nat} : ∀ {n i:Nat},i<n->is i=w->0<cnt is w n
 | n+1,i,h,e=>by
  simp only[cnt];by_cases hi:i=n
  .subst hi;rw[if_pos e];omega
  .have:=zHa (n:=n) (i:=i) (by omega) e;omega
theorem zKG {is:Nat->Nat}{w:Nat} : ∀ {n:Nat},0<cnt is w n-> ∃i,i<n/\is i=w
 | 0,h=>by simp[cnt]at h
 | n+1,h=>by
  simp only[cnt]at h;by_cases e:is n=w
  .exact⟨n,by omega,e⟩
  .rw[if_neg e]at h;obtain⟨i,f,a⟩:=zKG (n:=n) (by omega);exact⟨i,by omega,a⟩
def fnd (is:Nat->Nat)(w:Nat):Nat->Nat->Option Nat
 | 0,_=>none
 | d+1,i=>if is i=w then some i else fnd is w d (i+1)
theorem YZ {is:Nat->Nat}{w:Nat} : ∀ {d i j:Nat},fnd is w d i=some j->i<=j/\j<i+d/\is j=w
 | 0,_,_,h=>by cases h
 | d+1,i,j,h=>by
  simp only[fnd]at h;split at h
  .rename_i e;obtain rfl:=yG h;exact⟨zP _,by omega,e⟩
  .obtain⟨f,m,a⟩:=YZ h;exact⟨by omega,by omega,a⟩
theorem zD3 {is:Nat->Nat}{w:Nat} : ∀ {d i:Nat},fnd is w d i=none-> ∀j,i<=j->j<i+d->is j≠w
 | 0,_,_,j,h1,h2=>by omega
 | d+1,i,h,j,h1,h2=>by
  simp only[fnd]at h;split at h
  .cases h
  .rename_i e;by_cases a:j=i
   .subst a;exact e
   .exact zD3 h j (by omega) (by omega)
end Go.Bk
namespace Go.Eng.Sh
open Go.Bk
def Spc (H:AH)(A nb a:Nat)(is:Nat->Nat):Prop:= ∃c,H.h.get A=some (.cells c 145 1 false)/\c.length=8198/\c[0]? =some (.int .i64 nb)/\c[1]? =some (.int .i64 a)/\(∀i,i<8192->c[2+i]? =some (.int .u8 (is i:Nat)))/\(∀k,k<4->c[8194+k]? =some (.int .i64 (cnt is k nb:Nat)))/\nb<=8192/\a<8192/\ ∀i,is i<4
theorem Spc.stp (S:Spc k h v l A)(f:k.ok)(s:Stp w k F)(i: ¬w h):Spc F h v l A:=by
 obtain⟨c,g,S⟩:=S;exact⟨c,by rw[s.keep _ (f.lt g) i];exact g,S⟩
theorem Spc.lt {H:AH}{A nb a:Nat}{is:Nat->Nat}(h:Spc H A nb a is)(f:H.ok):A<H.next:=by
 obtain⟨c,g,h⟩:=h;exact f.lt g
theorem QF{i a b:Nat}(nb:Spc k h v l A)(G:k.ok)(hi:i<v)(f:A i=a)(hb:b<4)(C:a≠b):
  ∃H',f86 D n [.ptr h 0, .int .i64 i, .int .u8 b] k=some (.tuple [],H')/\Spc H' h v l (ZD A i b)/\Stp (fun B=>B=h) k H'/\H'.next=k.next:=by
 obtain⟨c,g,hl,I,c1,t,p,J,K,u⟩:=nb;have q:a<4:=by rw[<-f];exact u i
 obtain⟨q1,q2⟩:=(KY f C (n:=v)).1 hi;have a0:=zB5 A a v;have a1:=zB5 A b v;obtain⟨L,M,s,y,n1⟩:=xI G g (o:=8194+a) (x:= .int .i64 (cnt (ZD A i b) a v:Nat)) rfl (by omega);obtain⟨H2,m,N,z,n2⟩:=xI y.ok s (o:=8194+b) (x:= .int .i64 (cnt (ZD A i b) b v:Nat)) rfl (by simp;omega);obtain⟨O,Q,S,T,n3⟩:=xI z.ok N (o:=2+i) (x:= .int .u8 b) rfl (by simp;omega);refine⟨O, ?_,⟨_,S,by simp[hl], ?_, ?_,fun j U=> ?_,fun H F=> ?_,J,K,fun j=> ?_⟩,(y.trans z).trans T,by omega⟩
 .have V:ld1 (.ptr h (2+i)) k=some (.int .u8 a):=wO g (by rw[t i (by omega),f]);have W:ld1 (.ptr h (8194+a)) k=some (.int .i64 (cnt A a v:Nat)):=wO g (p a q);have Y:ld1 (.ptr h (8194+b)) L=some (.int .i64 (cnt A b v:Nat)):=wO s (by rw[qU (by omega)];exact p b hb);have Z:vU 8192 1 (.ptr h 2) (.int .i64 i)=some (.ptr h (2+i)):=xR 8192 h 2 .i64 i rfl (by omega);have i1:vU 4 1 (.ptr h 8194) (.int .u8 a)=some (.ptr h (8194+a)):=xR 4 h 8194 .u8 a rfl q;have i2:vU 4 1 (.ptr h 8194) (.int .u8 b)=some (.ptr h (8194+b)):=xR 4 h 8194 .u8 b rfl hb;have w1:((cnt A a v:Nat):Int) - ((1:Nat):Int)=((cnt (ZD A i b) a v:Nat):Int):=by omega
  have w2:((cnt A b v:Nat):Int)+((1:Nat):Int)=((cnt (ZD A i b) b v:Nat):Int):=by omega
  simp(maxSteps:=999999)(disch:=omega) only[f86,eZ,Z,V,i1,W,w1,M,i2,Y,w2,m,Q]
 .rw[qU (by omega),qU (by omega),qU (by omega)];exact I
 .rw[qU (by omega),qU (by omega),qU (by omega)];exact c1
 .by_cases e:j=i
  .subst e;rw[List.getElem?_set_self (by simp;omega),uD]
  .rw[qU (by omega),qU (by omega),qU (by omega),vL e];exact t j U
 .rw[qU (by omega)];by_cases e:H=b
  .subst e;rw[List.getElem?_set_self (by simp;omega)]
  .rw[qU (by omega)];by_cases m:H=a
   .subst m;rw[List.getElem?_set_self (by omega)]
   .rw[qU (by omega),zHb f m e];exact p H F
 .by_cases e:j=i
  .subst e;rw[uD];exact hb
  .rw[vL e];exact u j
theorem zFk (x:AV): ∀n,rep n [x]=List.replicate n x
 | 0=>rfl
 | n+1=>by rw[rep,zFk x n,List.replicate_succ];rfl
def zBT:Nat->Nat:=fun i=>if i<2 then 1 else 0
theorem zHf (w n:Nat):cnt (fun _=>w) w n=n:=by
 induction n with
 | zero=>rfl
 | succ n ih=>simp[cnt,ih]
theorem zJd (w:v≠h)(n:Nat):cnt (fun _=>v) h n=0:=by
 induction n with
 | zero=>rfl
 | succ n ih=>simp[cnt,ih,w]
theorem zLw:ZD (ZD (fun _=>0) 0 1) 1 1=zBT:=by
 funext i
 match i with
 | 0=>rfl
 | 1=>rfl
 | i+2=>rw[vL (by omega),vL (by omega),zBT,if_neg (by omega)]
theorem zL7(hn:100<=n)(O:k.ok){nb:Nat}(s:64<=nb)(Q:nb<=8192): ∃H' A,f34 D n [.int .i64 nb] k=some (.tuple [.ptr A 0, .int .i64 (0:Nat)],H')/\Prs k H'/\k.next<=A/\Spc H' A nb 0 zBT:=by
 obtain⟨r,hr⟩: ∃r,r=rep 8192 [AV.int .u8 (0:Nat)]:=⟨_,rfl⟩;have p:=zFk (AV.int .u8 (0:Nat)) 8192;rw[<-hr]at p;have q:r.length=8192:=by rw[p,List.length_replicate]
 have I: ∀i,i<8192->r[i]? =some (.int .u8 (0:Nat)):=fun i hi=>by rw[p,List.getElem?_replicate,if_pos hi]
 clear p;obtain⟨j,t⟩: ∃j,j=[AV.int .i64 (0:Nat), .int .i64 (0:Nat), .int .i64 (0:Nat), .int .i64 (0:Nat)]:=⟨_,rfl⟩;have hb:uO [(0,1),(1,1),(2,8192),(8194,4)] ([AV.int .i64 (0:Nat), .int .i64 (0:Nat)]++r++j) [(0, .int .i64 nb)]=some (.agg ([AV.int .i64 nb, .int .i64 (0:Nat)]++r++j)):=rfl;obtain⟨c,f⟩: ∃c,c=[AV.int .i64 nb, .int .i64 (0:Nat)]++r++j:=⟨_,rfl⟩;have J:c.length=8198:=by rw[f,t];simp[q]
 have S:c[0]? =some (.int .i64 nb):=by rw[f];rfl
 have c1:c[1]? =some (.int .i64 (0:Nat)):=by rw[f];rfl
 have T: ∀i,i<8192->c[2+i]? =some (.int .u8 (0:Nat)):=fun i hi=>by
  rw[f,qH,jC (by simp),j5 (by simp[q];omega)];simpa using I i hi
 have U: ∀i,i<4->c[8194+i]? =some (.int .i64 (0:Nat)):=fun i hi=>by
  rw[f,jC (by simp[q]),t];have:8194+i - ([AV.int .i64 nb, .int .i64 (0:Nat)]++r).length=i:=by simp[q]
  rw[this]
  match i,hi with
  | 0,_=>rfl
  | 1,_=>rfl
  | 2,_=>rfl
  | 3,_=>rfl
 rw[<-f]at hb;clear f;obtain⟨H1,A,b1,v,V,W,n1⟩:=box O (.cells c 145 1 false);obtain⟨y,Y,Z,z,n2⟩:=xI v.ok V (o:=8194) (x:= .int .i64 nb) rfl (by omega);have K:Spc y A nb 0 fun _=>0:=⟨_,Z,by simp[J],by rw[qU (by omega)];exact S,by rw[qU (by omega)];exact c1,fun i hi=>by rw[qU (by omega)];exact T i hi,fun H L=>by
  by_cases e:H=0
  .subst e;rw[List.getElem?_set_self (by omega),zHf]
  .rw[qU (by omega),zJd (fun h=>e h.symm)];exact U H L,Q,by omega,fun _=>Nat.succ_pos 3⟩
 obtain⟨C,e3,M,F,n3⟩:=QF D n K z.ok (i:=0) (a:=0) (b:=1) (by omega) rfl (by omega) (by omega);obtain⟨m,e4,N,s4,n4⟩:=QF D n M F.ok (i:=1) (a:=0) (b:=1) (by omega) rfl (by omega) (by omega);have N1:=v.next
 have i1:vU 4 1 (.ptr A 8194) (.int .u8 (0:Nat))=some (.ptr A 8194):=xR 4 A 8194 .u8 0 rfl (by omega);refine⟨m,A, ?_,v.fresh ((z.trans F).trans s4) (fun B hB=>by omega),W,by rw[<-zLw];exact N⟩;obtain⟨H,rfl⟩: ∃H,n=H+1+1+1:=⟨n - 3,by omega⟩;have l0:zAM D (H+1+1+1) [.ptr A 0, .int .i64 (0:Nat)] y=some (.norm [.ptr A 0, .int .i64 (1:Nat)],C):=by
  have u:((0:Nat):Int)< ((2:Nat):Int):=by omega
  have s:((0:Nat):Int)+((1:Nat):Int)=((1:Nat):Int):=by omega
  simp(maxSteps:=999999)(disch:=omega) only[zAM,eZ,u,e3,s]
 have l1:zAM D (H+1+1+1) [.ptr A 0, .int .i64 (1:Nat)] C=some (.norm [.ptr A 0, .int .i64 (2:Nat)],m):=by
  have u:((1:Nat):Int)< ((2:Nat):Int):=by omega
  have s:((1:Nat):Int)+((1:Nat):Int)=((2:Nat):Int):=by omega
  simp(maxSteps:=999999)(disch:=omega) only[zAM,eZ,u,e4,s]
 have l2:zAM D (H+1+1+1) [.ptr A 0, .int .i64 (2:Nat)] m=some (.exit 0 [.ptr A 0],m):=by
  simp(maxSteps:=999999)(disch:=omega) only[zAM,eZ,yY]
 have G:kL (H+1+1+1) (zAM D (H+1+1+1)) [.ptr A 0, .int .i64 (0:Nat)] y=some (.exit 0 [.ptr A 0],m):=by
  rw[wB l0,wB l1,kD l2]
 have a1: ¬(nb:Int)< ((64:Nat):Int):=by omega
 have a2: ¬((8192:Nat):Int)< (nb:Int):=by omega
 simp(maxSteps:=999999)(disch:=omega) only[f34,<-hr,eZ,a1,a2,<-t,hb,b1,i1,Y,G,zO0]
end Go.Eng.Sh
end
section
namespace Go.Eng
theorem XH (a:k.ok)(o:AObj)(K:Nat->AH->Rs):U7 k o K=K k.next (k.push o):=zFO a o K
theorem mx2S (a b:Nat):mx2 (.int .i64 a) (.int .i64 b)=some (.int .i64 (max a b:Nat)):=by
 by_cases h:a<b
 .have hb:ilt (a:Int) (b:Int)=true:=by rw[uL];simpa using h
  simp only[mx2,hb,zU,show max a b=b by omega]
 .have hb:ilt (a:Int) (b:Int)=false:=by rw[uL];simpa using h
  simp only[mx2,hb,yM,show max a b=a by omega]
end Go.Eng
namespace Go.Eng.Sh
open Go.Bk
theorem zCD(H:Spc k h v l A):f23 D n [.ptr h 0] k=some (.int .i64 (cnt A 0 v:Nat),k):=by
 obtain⟨c,g,hl,m,c1,o,f,p,q,s⟩:=H;have i:ld1 (.ptr h (8194+0)) k=some (.int .i64 (cnt A 0 v:Nat)):=wO g (f 0 (by omega));have j:vU 4 1 (.ptr h 8194) (.int .u8 (0:Nat))=some (.ptr h (8194+0)):=xR 4 h 8194 .u8 0 rfl (by omega);simp(maxSteps:=999999)(disch:=omega) only[f23,eZ,cq,j,i]
theorem Spc.la' (nb:Spc k h v l A)(j:k.ok){x:Nat}(m:x<8192): ∃H',stN 1 (.ptr h 1) (.int .i64 x) k=some (jU,H')/\Spc H' h v x A/\Stp (fun B=>B=h) k H'/\H'.next=k.next:=by
 obtain⟨c,g,hl,p,c1,q,s,t,G,u⟩:=nb;obtain⟨f,y,z,C,F⟩:=xI j g (o:=1) (x:= .int .i64 x) rfl (by omega);refine⟨f,y,⟨_,z,by simp[hl], ?_, ?_,fun i hi=> ?_,fun H a=> ?_,t,m,u⟩,C,F⟩
 .rw[qU (by omega)];exact p
 .rw[List.getElem?_set_self (by omega)]
 .rw[qU (by omega)];exact q i hi
 .rw[qU (by omega)];exact s H a
theorem zLt (D:Dyn)(n:Nat){A:Nat}(m:Box k h (.ptr l 0))(p:Box k v (.int .u8 L))(x:Spc k l B J f):
  ∀d i H,i+d=B->d<H->match fnd f L d i with
   | none=>kL H (bU D n) [.yT A, .ptr h 0, .ptr v 0, .int .i64 ((i:Nat):Int)] k=some (.exit 0 [],k)
   | some j=> ∀H',callV [] D (.yT A) [.int .i64 j] k=some (.bool false,H')->kL H (bU D n) [.yT A, .ptr h 0, .ptr v 0, .int .i64 ((i:Nat):Int)] k=some (.ret (.tuple []),H'):=by
 obtain⟨c,g,hl,y,c1,z,G,I,a,K⟩:=id x;have o:ld1 (.ptr l 0) k=some (.int .i64 B):=wO g y;intro d
 induction d with
 | zero=>
  intro i H hi C;obtain⟨H,rfl⟩: ∃k',H=k'+1:=⟨H - 1,by omega⟩;have t: ¬((i:Nat):Int)< (B:Int):=by omega
  simp only[fnd];exact kD (by simp(maxSteps:=999999)(disch:=omega) only[bU,eZ,m.ld,o,t])
 | succ d ih=>
  intro i H hi C;obtain⟨H,rfl⟩: ∃k',H=k'+1:=⟨H - 1,by omega⟩;have t:((i:Nat):Int)< (B:Int):=by omega
  have q:vU 8192 1 (.ptr l 2) (.int .i64 ((i:Nat):Int))=some (.ptr l (2+i)):=xR 8192 l 2 .i64 i rfl (by omega);have s:ld1 (.ptr l (2+i)) k=some (.int .u8 (f i:Nat)):=wO g (z i (by omega));simp only[fnd];by_cases e:f i=L
  .rw[if_pos e];intro H' u;have A4:((f i:Nat):Int)=(L:Int):=by omega
   exact ZJ (by simp(maxSteps:=999999)(disch:=omega) only[bU,eZ,m.ld,o,t,q,s,p.ld,A4,u])
  .rw[if_neg e];have A4: ¬((f i:Nat):Int)=(L:Int):=by omega
   have hi1:((i:Nat):Int)+((1:Nat):Int)=((i+1:Nat):Int):=by omega
   have F:bU D n [.yT A, .ptr h 0, .ptr v 0, .int .i64 ((i:Nat):Int)] k=some (.norm [.yT A, .ptr h 0, .ptr v 0, .int .i64 (i+1:Nat)],k):=by
    simp(maxSteps:=999999)(disch:=omega) only[bU,eZ,m.ld,o,t,q,s,p.ld,A4,hi1]
   have:=ih (i+1) H (by omega) (by omega);rw[wB F];exact this
def ofR (is:Nat->Nat)(w nb ab:Nat):Option Nat:=if cnt is w nb=0 then none else fnd is w (nb - max (ab+1) 2) (max (ab+1) 2)
theorem zIA (D:Dyn)(n:Nat)(q:10000<=n){A:Nat}(m:Box k h (.ptr B 0))(o:Box k v (.int .u8 P))(u:Box k l (.int .i64 R))(p:Spc k B J L f)(x:P<4)(A4:R<J)(K:2<=J):
  match ofR f P J R with
   | none=>f207 D n [.yT A, .ptr h 0, .ptr v 0, .ptr l 0] k=some (.tuple [],k)
   | some j=> ∀H',callV [] D (.yT A) [.int .i64 j] k=some (.bool false,H')->f207 D n [.yT A, .ptr h 0, .ptr v 0, .ptr l 0] k=some (.tuple [],H'):=by
 obtain⟨c,g,hl,M,c1,N,F,O,Q,S⟩:=id p;have s:ld1 (.ptr B (8194+P)) k=some (.int .i64 (cnt f P J:Nat)):=wO g (F P x);have t:vU 4 1 (.ptr B 8194) (.int .u8 P)=some (.ptr B (8194+P)):=xR 4 B 8194 .u8 P rfl x;have hi1:(R:Int)+((1:Nat):Int)=((R+1:Nat):Int):=by omega
 have hm:=mx2S (R+1) 2;obtain⟨i,hi⟩: ∃i,i=max (R+1) 2:=⟨_,rfl⟩;rw[<-hi]at hm;have a:=zLt D n (A:=A) m o p (J - i) i n (by omega) (by omega);simp only[ofR,<-hi];by_cases y:cnt f P J=0
 .rw[if_pos y];have H:((cnt f P J:Nat):Int)=((0:Nat):Int):=by omega
  simp(maxSteps:=999999)(disch:=omega) only[f207,eZ,m.ld,o.ld,t,s,H]
 .rw[if_neg y];have H: ¬((cnt f P J:Nat):Int)=((0:Nat):Int):=by omega
  cases z:fnd f P (J - i) i with
  | none=>
   rw[z]at a;simp only at a⊢;simp(maxSteps:=999999)(disch:=omega) only[f207,eZ,m.ld,o.ld,t,s,H,u.ld,hi1,hm,a,zGq]
  | some j=>
   rw[z]at a;simp only at a⊢;intro H' C;have G:=a H' C;simp(maxSteps:=999999)(disch:=omega) only[f207,eZ,m.ld,o.ld,t,s,H,u.ld,hi1,hm,G]
def lpT (a f h:Nat):ALoop:=⟨.ready,none,195,0,[1,2,3],[.ptr a 0, .ptr f 0, .ptr h 0]⟩
theorem zOh (m H:Nat)(o:k.h.get h=some (.loop (lpT v l B)))(a:List AV):callV [] (dy (m+1)) (.yT h) a k=X6 (dy m) m h (lpT v l B) a k:=by
 show U2 (tabR (dy m) m) h a k=_;simp only[U2,o];rfl
theorem zDS(nb:k.ok)(u:k.h.get h=some (.loop (lpT v l B)))(b1:Box k v (.ptr J 0))(b2:Box k l t)(S:Box k B G)(F:Spc k J L P A)(hj:R<L)(a0:A R=0)
  (T:l≠B) (f:l≠J) (o:B≠J) (d4:v≠l) (d5:v≠B):
  ∃H',X6 D n h (lpT v l B) [.int .i64 R] k=some (.bool false,H')/\H'.h.get h=some (.loop { lpT v l B with state:= .done,pending:=some .ret})/\Box H' l (.int .i64 R)/\Box H' B (.int .i64 (0:Nat))/\Spc H' J L R (ZD A R 2)/\Stp (fun a=>a=h\/a=J\/a=l\/a=B) k H':=by
 obtain⟨c,la,_⟩:=id F;have C:J≠h:=fun e=>by rw[e,u]at la;cases la
 have n1:v≠h:=fun e=>by obtain⟨_,hb⟩:=b1;rw[e,u]at hb;cases hb
 have M:l≠h:=fun e=>by obtain⟨_,hb⟩:=b2;rw[e,u]at hb;cases hb
 have N:B≠h:=fun e=>by obtain⟨_,hb⟩:=S;rw[e,u]at hb;cases hb
 have a5:v≠J:=fun e=>by
  obtain⟨_,hb⟩:=b1;obtain⟨_,la,hl,_⟩:=F;rw[e,la]at hb;simp only[zC,AObj.cells.injEq]at hb;rw[hb.1]at hl;simp at hl
 have h2:L<=8192:=by obtain⟨_,_,_,_,_,_,_,H,_⟩:=F;exact H
 have m:Stp (fun a=>a=h) k (k.put h (.loop { lpT v l B with state:= .busy})):=(zOJ nb).put (nb.lt u) _ (.inr rfl);have U:(k.put h (.loop { lpT v l B with state:= .busy})).h.get h=some (.loop { lpT v l B with state:= .busy}):=by rw[zOF,if_pos rfl]
 have O: ∀K:AH->Rs,fV h k K=K (k.put h (.loop { lpT v l B with state:= .busy})):=fun K=>by
  simp only[fV,u,lpT,wR]
 generalize k.put h (.loop { lpT v l B with state:= .busy})=H1 at m U O;have Q:=b1.mono nb m n1;have a6:=F.stp nb m C;obtain⟨H2,e2,a7,p,c0⟩:=QF D n a6 m.ok hj a0 (b:=2) (by omega) (by omega);have a8:=Q.mono m.ok p a5;obtain⟨H3,e3,a9,q,c1⟩:=a7.la' p.ok (x:=R) (by omega);have b0:=((b2.mono nb m M).mono m.ok p f).mono p.ok q f;obtain⟨H4,e4,b4,s⟩:=b0.st q.ok (x:= .int .i64 R) rfl;have b5:=(((S.mono nb m N).mono m.ok p o).mono p.ok q o).mono q.ok s (fun e=>T e.symm);obtain⟨z,e5,b6,s5⟩:=b5.st s.ok (x:= .int .i64 (0:Nat)) rfl;have lA:=nb.lt u;have N1:=m.next;have N2:=p.next;have N3:=q.next;have N4:=s.next;have N5:=s5.next
 have V:z.h.get h=some (.loop { lpT v l B with state:= .busy}):=by
  rw[s5.keep _ (by omega) (fun e=>N e.symm),s.keep _ (by omega) (fun e=>M e.symm),q.keep _ (by omega) (fun e=>C e.symm),p.keep _ (by omega) (fun e=>C e.symm)];exact U
 have i:Stp (fun a=>a=h) z (z.put h (.loop { lpT v l B with state:= .done,pending:=some .ret})):=(zOJ s5.ok).put (s5.ok.lt V) _ (.inr rfl);have Z:BK h (some .ret) z=some (.bool false,z.put h (.loop { lpT v l B with state:= .done,pending:=some .ret})):=by
  simp only[BK,V,wR,lpT]
 have b7:=b4.mono s.ok s5 T;have b8:=(a9.stp q.ok s (fun e=>f e.symm)).stp s.ok s5 (fun e=>o e.symm);have r2:ld1 (.ptr v 0) H2=some (.ptr J 0):=a8.ld;refine⟨_, ?_,by rw[zOF,if_pos rfl],b7.mono s5.ok i M,b6.mono s5.ok i N,b8.stp s5.ok i C,⟨i.ok,by have:=i.next;omega,fun a hB I=> ?_⟩⟩
 .have hl:YO [1,2,3] (lpT v l B).live=true:=rfl;have b9:(lpT v l B).vals=[.ptr v 0, .ptr l 0, .ptr B 0]:=rfl;simp(maxSteps:=999999)(disch:=omega) only[X6,eZ,hl,b9,zU,O,Q.ld,e2,r2,e3,e4,e5];exact Z
 .have W: ¬a=h:=fun e=>I (.inl e)
  have Y: ¬a=J:=fun e=>I (.inr (.inl e))
  have a3: ¬a=l:=fun e=>I (.inr (.inr (.inl e)))
  have a4: ¬a=B:=fun e=>I (.inr (.inr (.inr e)))
  rw[i.keep a (by omega) W,s5.keep a (by omega) a4,s.keep a (by omega) a3,q.keep a (by omega) Y,p.keep a (by omega) Y,m.keep a hB W]
theorem take_one (m n:Nat)(hm:10000<=m)(q:k.ok){ab:Nat}(b1:Box k h (.ptr B 0))(b2:Box k v t)(b3:Box k l G)(sp:Spc k B J L A)(a4:ab<J)(a5:2<=J)
  (d1:v≠l) (d2:v≠B) (d3:l≠B) (d4:h≠v) (d5:h≠l):
  match ofR A 0 J ab with
  | none=> ∃H',(∀(H:AH->Rs) (I:AH->Nat->Rs) (z:AH->Rs),(bR (f168 (dy (m+2)) n [.ptr B 0, .int .u8 (0:Nat), .int .i64 ab] k) fun U k=>U7 k (.loop ⟨.ready,none,195,0,[1,2,3],[.ptr h 0, .ptr v 0, .ptr l 0]⟩) fun la k=>bR (rfC [(168,f168 (dy (m+2)) n),(86,f86 (dy (m+2)) n)] (dy (m+2)) U la k) fun _ k=>cS la k fun j k=>zEc j (H k) (I k) (z k))=H H')/\Prs k H'
  | some j=> ∃H',(∀(H:AH->Rs) (I:AH->Nat->Rs) (z:AH->Rs),(bR (f168 (dy (m+2)) n [.ptr B 0, .int .u8 (0:Nat), .int .i64 ab] k) fun U k=>U7 k (.loop ⟨.ready,none,195,0,[1,2,3],[.ptr h 0, .ptr v 0, .ptr l 0]⟩) fun la k=>bR (rfC [(168,f168 (dy (m+2)) n),(86,f86 (dy (m+2)) n)] (dy (m+2)) U la k) fun _ k=>cS la k fun j k=>zEc j (H k) (I k) (z k))=z H')/\Box H' v (.int .i64 ((j:Nat):Int))/\Box H' l (.int .i64 (0:Nat))/\Spc H' B J j (ZD A j 2)/\Stp (fun p=>p=B\/p=v\/p=l) k H':=by
 obtain⟨H1,M,q1,Q,g1,m1,n1⟩:=box q (.cells [.ptr B 0] 36 1 false);obtain⟨H2,N,q2,f,g2,m2,n2⟩:=box Q.ok (.cells [.int .u8 (0:Nat)] 141 1 false);obtain⟨a,O,q3,o,g3,m3,n3⟩:=box f.ok (.cells [.int .i64 ab] 3 1 false);have s:Prs a (a.push (.loop (lpT h v l))):=(zOJ o.ok).push _;have i:(a.push (.loop (lpT h v l))).h.get a.next=some (.loop (lpT h v l)):=zOB _ _
 have S: ∀K:Nat->AH->Rs,U7 a (.loop ⟨.ready,none,195,0,[1,2,3],[.ptr h 0, .ptr v 0, .ptr l 0]⟩) K=K a.next (a.push (.loop (lpT h v l))):=fun K=>XH o.ok _ K
 generalize a.push (.loop (lpT h v l))=H4 at s i S;have P3:=(Q.trans f).trans o;have u:=P3.trans s;have N1:=Q.next;have N2:=f.next;have N3:=o.next;have N4:=s.next
 have l1:=b1.lt q;have l2:=b2.lt q;have l3:=b3.lt q;have lS:=sp.lt q;have c3:Box H4 M (.ptr B 0):=⟨_,zOM ((f.trans o).trans s) Q.ok g1⟩;have c4:Box H4 N (.int .u8 (0:Nat)):=⟨_,zOM (o.trans s) f.ok g2⟩;have c5:Box H4 O (.int .i64 ab):=⟨_,zOM s o.ok g3⟩;have Z:=sp.stp q u (fun t=>t);have C:=zIA (dy (m+1)) (m+1) (by omega) (A:=a.next) c3 c4 c5 Z (by omega) a4 a5
 have Y:f168 (dy (m+2)) n [.ptr B 0, .int .u8 (0:Nat), .int .i64 ab] k=some (.func 207 [] [.ptr M 0, .ptr N 0, .ptr O 0],a):=by
  simp only[f168,eZ,cbx,q1,q2,q3]
 cases hr:ofR A 0 J ab with
 | none=>
  rw[hr]at C;simp only at C⊢;have s5:Stp (fun p=>p=a.next) H4 (H4.put a.next .dead):=(zOJ s.ok).put (s.ok.lt i) _ (.inr rfl)
  have T: ∀K:Option Code->AH->Rs,cS a.next H4 K=K none (H4.put a.next .dead):=fun K=>by
   simp only[cS,i,lpT,wR]
  have V:rfC [(168,f168 (dy (m+2)) n),(86,f86 (dy (m+2)) n)] (dy (m+2)) (.func 207 [] [.ptr M 0, .ptr N 0, .ptr O 0]) a.next H4=some (.tuple [],H4):=C
  refine⟨_,fun H I z=> ?_,u.fresh s5 fun p hB=>by omega⟩;simp only[Y,bR,S,V,T,zEc]
 | some j=>
  rw[hr]at C;simp only at C⊢;have hj:j<J/\A j=0:=by
   simp only[ofR]at hr;split at hr
   .cases hr
   .obtain⟨h1,h2,h3⟩:=YZ hr;exact⟨by omega,h3⟩
  obtain⟨F,e5,g5,a6,a7,a8,s5⟩:=zDS (dy m) m u.ok i (b1.mono q u (fun t=>t)) (b2.mono q u (fun t=>t)) (b3.mono q u (fun t=>t)) Z hj.1 hj.2 d1 d2 d3 d4 d5;have a0:=C F ((zOh m (m+1) i _).trans e5);have V:rfC [(168,f168 (dy (m+2)) n),(86,f86 (dy (m+2)) n)] (dy (m+2)) (.func 207 [] [.ptr M 0, .ptr N 0, .ptr O 0]) a.next H4=some (.tuple [],F):=a0
  have nb:Stp (fun p=>p=a.next) F (F.put a.next .dead):=(zOJ s5.ok).put (s5.ok.lt g5) _ (.inr rfl)
  have T: ∀K:Option Code->AH->Rs,cS a.next F K=K (some .ret) (F.put a.next .dead):=fun K=>by
   simp only[cS,g5,lpT,wR]
  have N5:=s5.next;have N6:=nb.next
  refine⟨_,fun H I z=> ?_,a6.mono s5.ok nb (by omega),a7.mono s5.ok nb (by omega),a8.stp s5.ok nb (by omega),⟨nb.ok,by omega,fun p hB W=> ?_⟩⟩
  .simp only[Y,bR,S,V,T,zEc]
  .have a1: ¬p=B:=fun e=>W (.inl e)
   have a2: ¬p=v:=fun e=>W (.inr (.inl e))
   have a3: ¬p=l:=fun e=>W (.inr (.inr e))
   rw[nb.keep p (by omega) (by omega),s5.keep p (by omega) (fun e=>by rcases e with e | e | e | e<;>omega),u.keep p hB (fun t=>t)]
theorem zIc (m n:Nat)(hm:10000<=m)(hn:100<=n)(L:k.ok)(M:Spc k h v l A)(a2:l<v)(a0:2<=v)(h0:A 0≠0)(N:A 1≠0)(hf:0<cnt A 0 v):
  ∃H' j,f195 (dy (m+2)) n [.ptr h 0] k=some (.tuple [.int .i64 ((j:Nat):Int), .int .i64 (0:Nat)],H')/\2<=j/\j<v/\A j=0/\Spc H' h v j (ZD A j 2)/\Stp (fun B=>B=h) k H':=by
 obtain⟨c,g,hl,c0,c1,hc,a7,q1,q2,q3⟩:=id M;obtain⟨H1,nb,b1,G,g1,m1,n1⟩:=box L (.cells [.ptr h 0] 36 1 false);obtain⟨H2,y,b2,z,g2,m2,n2⟩:=box G.ok (.cells [.int .i64 (0:Nat)] 3 1 false);obtain⟨t,C,b3,I,g3,m3,n3⟩:=box z.ok (.cells [.int .i64 (0:Nat)] 32 1 false);have f:=(G.trans z).trans I;have N1:=G.next;have N2:=z.next;have N3:=I.next
 have lS:=M.lt L;have J:=M.stp L f (fun x=>x);have q:Box t nb (.ptr h 0):=⟨_,zOM (z.trans I) G.ok g1⟩;have x2:Box t y (.int .i64 (0:Nat)):=⟨_,zOM I z.ok g2⟩;have x3:Box t C (.int .i64 (0:Nat)):=⟨_,g3⟩;have rl:ld1 (.ptr h 1) t=some (.int .i64 l):=by
  obtain⟨c',g',_,_,a3,_⟩:=J;exact wO g' a3
 have a1:zJm 1 [.int .i64 (0:Nat), .int .i64 (0:Nat)] [(0, .int .i64 l),(1, .int .i64 (0:Nat))]=some (.agg [.int .i64 l, .int .i64 (0:Nat)]):=rfl;have i0:zAA 2 1 (.agg [.int .i64 l, .int .i64 (0:Nat)]) (.int .i64 (0:Nat))=some (.int .i64 l):=rfl;have i1:zAA 2 1 (.agg [.int .i64 l, .int .i64 (0:Nat)]) (.int .i64 (1:Nat))=some (.int .i64 (0:Nat)):=rfl;have t0:((0:Nat):Int)< ((2:Nat):Int):=by omega
 have t1:((1:Nat):Int)< ((2:Nat):Int):=by omega
 have a4:((0:Nat):Int)+((1:Nat):Int)=((1:Nat):Int):=by omega
 obtain⟨H,rfl⟩: ∃H,n=H+1+1:=⟨n - 2,by omega⟩;have u:=take_one m (H+1+1) hm f.ok q x2 x3 J a2 a0 (by omega) (by omega) (by omega) (by omega) (by omega)
 cases hr:ofR A 0 v l with
 | some j=>
  rw[hr]at u;simp only at u;obtain⟨F,O,Q,S,a5,T⟩:=u;have s:2<=j/\j<v/\A j=0:=by
   simp only[ofR]at hr;split at hr
   .cases hr
   .obtain⟨N,h2,U⟩:=YZ hr;exact⟨by omega,by omega,U⟩
  refine⟨F,j, ?_,s.1,s.2.1,s.2.2,a5,⟨T.ok,by have:=T.next;omega,fun B V W=> ?_⟩⟩
  .have Y:YB (dy (m+2)) (H+1+1) [.ptr nb 0, .ptr y 0, .ptr C 0, .agg [.int .i64 l, .int .i64 (0:Nat)], .int .i64 (0:Nat)] t=some (.ret (.tuple [.int .i64 ((j:Nat):Int), .int .i64 (0:Nat)]),F):=by
    simp(maxSteps:=999999)(disch:=omega) only[YB,eZ,t0,i0,q.ld,O,Q.ld,S.ld]
   simp(maxSteps:=999999)(disch:=omega) only[f195,eZ,cbx,cq,b1,b2,b3,q.ld,rl,a1,ZJ Y]
  .rw[T.keep B (by omega) (fun e=>by rcases e with e | e | e<;>first | omega | exact W e),f.keep B V (fun x=>x)]
 | none=>
  rw[hr]at u;simp only at u;obtain⟨F,O,o⟩:=u;have N4:=o.next
  have Z:=take_one m (H+1+1) hm o.ok (q.mono f.ok o (fun x=>x)) (x2.mono f.ok o (fun x=>x)) (x3.mono f.ok o (fun x=>x)) (J.stp f.ok o (fun x=>x)) (ab:=0) (by omega) a0 (by omega) (by omega) (by omega) (by omega) (by omega)
  cases p:ofR A 0 v 0 with
  | none=>
   exfalso;simp only[ofR]at p;rw[if_neg (by omega)]at p;obtain⟨i,hi,K⟩:=zKG hf;have:i≠0/\i≠1:=⟨fun e=>h0 (e▸K),fun e=>N (e▸K)⟩;exact zD3 p i (by omega) (by omega) K
  | some j=>
   rw[p]at Z;simp only at Z;obtain⟨H5,e5,Q,S,a6,s5⟩:=Z;have s:2<=j/\j<v/\A j=0:=by
    simp only[ofR]at p;split at p
    .cases p
    .obtain⟨N,h2,U⟩:=YZ p;exact⟨by omega,by omega,U⟩
   refine⟨H5,j, ?_,s.1,s.2.1,s.2.2,a6,⟨s5.ok,by have:=s5.next;omega,fun B V W=> ?_⟩⟩
   .have Y:YB (dy (m+2)) (H+1+1) [.ptr nb 0, .ptr y 0, .ptr C 0, .agg [.int .i64 l, .int .i64 (0:Nat)], .int .i64 (0:Nat)] t=some (.norm [.ptr nb 0, .ptr y 0, .ptr C 0, .agg [.int .i64 l, .int .i64 (0:Nat)], .int .i64 (1:Nat)],F):=by
     simp(maxSteps:=999999)(disch:=omega) only[YB,eZ,t0,i0,q.ld,O,a4]
    have l1:YB (dy (m+2)) (H+1+1) [.ptr nb 0, .ptr y 0, .ptr C 0, .agg [.int .i64 l, .int .i64 (0:Nat)], .int .i64 (1:Nat)] F=some (.ret (.tuple [.int .i64 ((j:Nat):Int), .int .i64 (0:Nat)]),H5):=by
     simp(maxSteps:=999999)(disch:=omega) only[YB,eZ,t1,i1,(q.mono f.ok o (fun x=>x)).ld,e5,Q.ld,S.ld]
    simp(maxSteps:=999999)(disch:=omega) only[f195,eZ,cbx,cq,b1,b2,b3,q.ld,rl,a1,wB Y,ZJ l1]
   .rw[s5.keep B (by omega) (fun e=>by rcases e with e | e | e<;>first | omega | exact W e),o.keep B (by omega) (fun x=>x),f.keep B V (fun x=>x)]
end Go.Eng.Sh
end
section
namespace Go.Bk
def zBA (is:Nat->Nat)(w b i nb:Nat):Nat->Nat:=fun j=>if i<=j/\j<nb/\is j=w then b else is j
theorem zJz (m:h≠v)(hi:l<B)(is:A l=h):zBA (ZD A l v) h v (l+1) B=zBA A h v l B:=by
 funext j;simp only[zBA];by_cases e:j=l
 .subst e;rw[uD,if_neg (by omega),if_pos ⟨zP _,hi,is⟩]
 .rw[vL e];by_cases a:l+1<=j/\j<B/\A j=h
  .rw[if_pos a,if_pos ⟨by omega,a.2⟩]
  .rw[if_neg a,if_neg fun f=>a ⟨by omega,f.2⟩]
theorem zHC (is:A l≠h):zBA A h v (l+1) B=zBA A h v l B:=by
 funext j;simp only[zBA];by_cases e:j=l
 .subst e;rw[if_neg (by omega),if_neg fun f=>is f.2.2]
 .by_cases a:l+1<=j/\j<B/\A j=h
  .rw[if_pos a,if_pos ⟨by omega,a.2⟩]
  .rw[if_neg a,if_neg fun f=>a ⟨by omega,f.2⟩]
theorem zJA (is:Nat->Nat)(w b nb:Nat):zBA is w b nb nb=is:=by
 funext j;simp only[zBA];rw[if_neg (by omega)]
theorem zHB (is:cnt A h B=0):zBA A h v l B=A:=by
 funext j;simp only[zBA];rw[if_neg fun a=>by have:=zHa a.2.1 a.2.2;omega]
def stlS (is:Nat->Nat)(nb:Nat):Nat->Nat:=zBA (zBA is 3 0 2 nb) 2 1 2 nb
end Go.Bk
namespace Go.Eng.Sh
open Go.Bk
def lpA (a f:Nat):ALoop:=⟨.ready,none,117,0,[3,5],[.ptr a 0, .ptr f 0]⟩
theorem zOj (m H:Nat)(j:k.h.get h=some (.loop (lpA v l)))(a:List AV):callV [] (dy (m+1)) (.yT h) a k=X7 (dy m) m h (lpA v l) a k:=by
 show U2 (tabR (dy m) m) h a k=_;simp only[U2,j];rfl
theorem Spc.nbox (i:Spc k h v l A)(b1:Box k B t):B≠h:=fun e=>by
 obtain⟨_,hb⟩:=b1;obtain⟨_,j,hl,_⟩:=i;rw[e,j]at hb;simp only[zC,AObj.cells.injEq]at hb;rw[hb.1]at hl;simp at hl
theorem zHA(m:k.ok){j:Nat}(p:k.h.get h=some (.loop (lpA v l)))(y:Box k v (.ptr B 0))(z:Box k l (.int .u8 R))(C:Spc k B J L A)(U:j<J)(N:A j=P)(O:P≠R)(hb:R<4):
  ∃H',X7 D n h (lpA v l) [.int .i64 j] k=some (.bool true,H')/\H'.h.get h=some (.loop (lpA v l))/\Spc H' B J L (ZD A j R)/\Stp (fun a=>a=h\/a=B) k H':=by
 obtain⟨c,F,_⟩:=id C;have u:B≠h:=fun e=>by rw[e,p]at F;cases F
 have V:v≠h:=fun e=>by obtain⟨_,hb⟩:=y;rw[e,p]at hb;cases hb
 have W:l≠h:=fun e=>by obtain⟨_,hb⟩:=z;rw[e,p]at hb;cases hb
 have i:Stp (fun a=>a=h) k (k.put h (.loop { lpA v l with state:= .busy})):=(zOJ m).put (m.lt p) _ (.inr rfl);have G:(k.put h (.loop { lpA v l with state:= .busy})).h.get h=some (.loop { lpA v l with state:= .busy}):=by rw[zOF,if_pos rfl]
 have H: ∀K:AH->Rs,fV h k K=K (k.put h (.loop { lpA v l with state:= .busy})):=fun K=>by
  simp only[fV,p,lpA,wR]
 generalize k.put h (.loop { lpA v l with state:= .busy})=H1 at i G H;have Q:=C.stp m i u;obtain⟨s,Y,S,q,a0⟩:=QF D n Q i.ok U N hb O;have lA:=m.lt p;have N1:=i.next;have N2:=q.next
 have I:s.h.get h=some (.loop { lpA v l with state:= .busy}):=by rw[q.keep _ (by omega) (fun e=>u e.symm)];exact G
 have t:Stp (fun a=>a=h) s (s.put h (.loop (lpA v l))):=(zOJ q.ok).put (q.ok.lt I) _ (.inr rfl);have M:BK h none s=some (.bool true,s.put h (.loop (lpA v l))):=by
  simp only[BK,I,wR,lpA]
 refine⟨_, ?_,by rw[zOF,if_pos rfl],S.stp q.ok t u,⟨t.ok,by have:=t.next;omega,fun a Z f=> ?_⟩⟩
 .have hl:YO [3,5] (lpA v l).live=true:=rfl;have T:(lpA v l).vals=[.ptr v 0, .ptr l 0]:=rfl;simp(maxSteps:=999999)(disch:=omega) only[X7,eZ,hl,T,zU,H,(y.mono m i V).ld,(z.mono m i W).ld,Y];exact M
 .have o: ¬a=h:=fun e=>f (.inl e)
  have a2: ¬a=B:=fun e=>f (.inr e)
  rw[t.keep a (by omega) o,q.keep a (by omega) a2,i.keep a Z o]
theorem zJy (m:Nat)(U:a≠c)(hb:c<4)(a4:P<=8192):
  ∀d i k (is:Nat->Nat) (H:AH),H.ok->i+d=P->d<k->H.h.get h=some (.loop (lpA v l))->Box H v (.ptr L 0)->Box H l (.int .u8 c)->Box H B (.ptr L 0)->Box H J (.int .u8 a)->Spc H L P R is->
   ∃H',kL k (bU (dy (m+1)) (m+1)) [.yT h, .ptr B 0, .ptr J 0, .int .i64 i] H=some (.exit 0 [],H')/\H'.h.get h=some (.loop (lpA v l))/\Spc H' L P R (zBA is a c i P)/\Stp (fun C=>C=h\/C=L) H H':=by
 intro d
 induction d with
 | zero=>
  intro i k is H A hi a0 f y z c3 s q;obtain⟨k,rfl⟩: ∃k',k=k'+1:=⟨k - 1,by omega⟩;obtain⟨p,g,hl,K,c1,W,hn,h1,h2,h4⟩:=id q;have G:ld1 (.ptr L 0) H=some (.int .i64 P):=wO g K;have t: ¬(i:Int)< (P:Int):=by omega
  have a1:i=P:=by omega
  refine⟨H,kD (by simp(maxSteps:=999999)(disch:=omega) only[bU,eZ,c3.ld,G,t]),f,by rw[a1,zJA];exact q,zOJ A⟩
 | succ d ih=>
  intro i k is H A hi a0 f y z c3 s q;obtain⟨k,rfl⟩: ∃k',k=k'+1:=⟨k - 1,by omega⟩;obtain⟨p,g,hl,K,c1,W,hn,h1,h2,h4⟩:=id q;have G:ld1 (.ptr L 0) H=some (.int .i64 P):=wO g K;have t:(i:Int)< (P:Int):=by omega
  have Y:vU 8192 1 (.ptr L 2) (.int .i64 i)=some (.ptr L (2+i)):=xR 8192 L 2 .i64 i rfl (by omega);have Z:ld1 (.ptr L (2+i)) H=some (.int .u8 (is i:Nat)):=wO g (W i (by omega));have hi1:(i:Int)+((1:Nat):Int)=((i+1:Nat):Int):=by omega
  by_cases e:is i=a
  .obtain⟨o,e1,g1,a2,M⟩:=zHA (dy m) m A f y z q (j:=i) (by omega) e U hb;have n3:v≠h:=fun e=>by obtain⟨_,hb⟩:=y;rw[e,f]at hb;cases hb
   have n5:l≠h:=fun e=>by obtain⟨_,hb⟩:=z;rw[e,f]at hb;cases hb
   have m3:B≠h:=fun e=>by obtain⟨_,hb⟩:=c3;rw[e,f]at hb;cases hb
   have m4:J≠h:=fun e=>by obtain⟨_,hb⟩:=s;rw[e,f]at hb;cases hb
   have st: ∀ {I:Nat} {x:AV},Box H I x->I≠h->Box o I x:=fun {I x} hb a3=>hb.mono A M fun e=>by
    rcases e with e | e
    .exact a3 e
    .exact q.nbox hb e
   obtain⟨N,O,Q,u,S⟩:=ih (i+1) k (ZD is i c) o M.ok (by omega) (by omega) g1 (st y n3) (st z n5) (st c3 m3) (st s m4) a2;rw[zJz U (by omega) e]at u;have F:((is i:Nat):Int)=(a:Int):=by omega
   have T:bU (dy (m+1)) (m+1) [.yT h, .ptr B 0, .ptr J 0, .int .i64 i] H=some (.norm [.yT h, .ptr B 0, .ptr J 0, .int .i64 (i+1:Nat)],o):=by
    simp(maxSteps:=999999)(disch:=omega) only[bU,eZ,c3.ld,G,t,Y,Z,s.ld,F,hi1,zOj m (m+1) f,e1]
   exact⟨N,by rw[wB T];exact O,Q,u,M.trans S⟩
  .have F: ¬((is i:Nat):Int)=(a:Int):=by omega
   have T:bU (dy (m+1)) (m+1) [.yT h, .ptr B 0, .ptr J 0, .int .i64 i] H=some (.norm [.yT h, .ptr B 0, .ptr J 0, .int .i64 (i+1:Nat)],H):=by
    simp(maxSteps:=999999)(disch:=omega) only[bU,eZ,c3.ld,G,t,Y,Z,s.ld,F,hi1]
   obtain⟨N,O,Q,u,S⟩:=ih (i+1) k is H A (by omega) (by omega) f y z c3 s q;rw[zHC e]at u;exact⟨N,by rw[wB T];exact O,Q,u,S⟩
theorem zFi (m n:Nat)(hm:10000<=m)(N:k.ok){w b:Nat}(Q:Spc k h v l A)(a7:2<=v)(Y:w<4)(hb:b<4)(a2:w≠b):
  ∃H',f117 (dy (m+2)) n [.ptr h 0, .int .u8 w, .int .u8 b] k=some (.tuple [],H')/\Spc H' h v l (zBA A w b 2 v)/\Stp (fun B=>B=h) k H':=by
 obtain⟨c,g,hl,c0,c1,hc,a8,q1,q2,q3⟩:=id Q;obtain⟨H1,o,b1,H,Z,m1,n1⟩:=box N (.cells [.ptr h 0] 36 1 false);obtain⟨H2,q,b2,y,g2,m2,n2⟩:=box H.ok (.cells [.int .u8 b] 141 1 false);have P2:=H.trans y;obtain⟨H3,z,b3,u,g3,m3,n3⟩:=box P2.ok (.cells [.ptr h 0] 36 1 false);obtain⟨H4,C,b4,s,g4,m4,n4⟩:=box u.ok (.cells [.int .u8 w] 141 1 false);obtain⟨a,F,b5,p,g5,m5,n5⟩:=box s.ok (.cells [.int .i64 (0:Nat)] 3 1 false);have j:Prs a (a.push (.loop (lpA o q))):=(zOJ p.ok).push _;have S:(a.push (.loop (lpA o q))).h.get a.next=some (.loop (lpA o q)):=zOB _ _
 have W: ∀K:Nat->AH->Rs,U7 a (.loop ⟨.ready,none,117,0,[3,5],[.ptr o 0, .ptr q 0]⟩) K=K a.next (a.push (.loop (lpA o q))):=fun K=>XH p.ok _ K
 generalize a.push (.loop (lpA o q))=H6 at j S W;have P5:=((P2.trans u).trans s).trans p;have P6:=P5.trans j;have N1:=H.next;have N2:=y.next;have N3:=u.next;have N4:=s.next;have N5:=p.next;have N6:=j.next
 have lS:=Q.lt N;have x3:Box H2 o (.ptr h 0):=⟨_,zOM y H.ok Z⟩;have y3:Box H6 o (.ptr h 0):=⟨_,zOM ((((y.trans u).trans s).trans p).trans j) H.ok Z⟩;have y5:Box H6 q (.int .u8 b):=⟨_,zOM (((u.trans s).trans p).trans j) y.ok g2⟩;have T:Box H6 z (.ptr h 0):=⟨_,zOM ((s.trans p).trans j) u.ok g3⟩;have U:Box H6 C (.int .u8 w):=⟨_,zOM (p.trans j) s.ok g4⟩;have z5:Box H6 F (.int .i64 (0:Nat)):=⟨_,zOM j p.ok g5⟩;have J:=Q.stp N P6 (fun x=>x);have a0:f168 (dy (m+2)) n [.ptr h 0, .int .u8 w, .int .i64 (0:Nat)] H2=some (.func 207 [] [.ptr z 0, .ptr C 0, .ptr F 0],a):=by
  simp only[f168,eZ,cbx,b3,b4,b5]
 have run: ∃i,f207 (dy (m+1)) (m+1) [.yT a.next, .ptr z 0, .ptr C 0, .ptr F 0] H6=some (.tuple [],i)/\i.h.get a.next=some (.loop (lpA o q))/\Spc i h v l (zBA A w b 2 v)/\Stp (fun B=>B=a.next\/B=h) H6 i:=by
  have r1:ld1 (.ptr h (8194+w)) H6=some (.int .i64 (cnt A w v:Nat)):=by
   obtain⟨c',g',_,_,_,_,a3,_⟩:=J;exact wO g' (a3 w Y)
  have i1:vU 4 1 (.ptr h 8194) (.int .u8 w)=some (.ptr h (8194+w)):=xR 4 h 8194 .u8 w rfl Y;by_cases h0:cnt A w v=0
  .have L:((cnt A w v:Nat):Int)=((0:Nat):Int):=by omega
   refine⟨H6, ?_,S,by rw[zHB h0];exact J,zOJ j.ok⟩;simp(maxSteps:=999999)(disch:=omega) only[f207,eZ,T.ld,U.ld,i1,r1,L]
  .have L: ¬((cnt A w v:Nat):Int)=((0:Nat):Int):=by omega
   obtain⟨i,V,G,M,t⟩:=zJy m a2 hb q1 (v - 2) 2 (m+1) A H6 j.ok (by omega) (by omega) S y3 y5 T U J;refine⟨i, ?_,G,M,t⟩;have a4:mx2 (.int .i64 (1:Nat)) (.int .i64 (2:Nat))=some (.int .i64 (2:Nat)):=rfl;have a5:((0:Nat):Int)+((1:Nat):Int)=((1:Nat):Int):=by omega
   simp(maxSteps:=999999)(disch:=omega) only[f207,eZ,T.ld,U.ld,i1,r1,L,z5.ld,a5,a4,V,zGq]
 obtain⟨i,V,G,M,t⟩:=run;have I:Stp (fun B=>B=a.next) i (i.put a.next .dead):=(zOJ t.ok).put (t.ok.lt G) _ (.inr rfl)
 have a1: ∀K:Option Code->AH->Rs,cS a.next i K=K none (i.put a.next .dead):=fun K=>by
  simp only[cS,G,lpA,wR]
 have a6:rfC [(168,f168 (dy (m+2)) n),(86,f86 (dy (m+2)) n)] (dy (m+2)) (.func 207 [] [.ptr z 0, .ptr C 0, .ptr F 0]) a.next H6=some (.tuple [],i):=V
 have N7:=t.next;have N8:=I.next
 refine⟨_, ?_,M.stp t.ok I (by omega),⟨I.ok,by omega,fun B hB hS=> ?_⟩⟩
 .simp(maxSteps:=999999)(disch:=omega) only[f117,eZ,cbx,b1,b2,x3.ld,a0,W,a6,a1,zEc]
 .rw[I.keep B (by omega) (by omega),t.keep B (by omega) (fun e=>by rcases e with e | e;omega;exact hS e),P6.keep B hB (fun x=>x)]
theorem zFc (m n:Nat)(hm:10000<=m)(p:k.ok)(q:Spc k h v l A)(f:2<=v):
  ∃H',f71 (dy (m+2)) n [.ptr h 0] k=some (.tuple [],H')/\Spc H' h v l (stlS A v)/\Stp (fun B=>B=h) k H':=by
 obtain⟨x,s,j,i⟩:=zFi m n hm p q f (w:=3) (b:=0) (by omega) (by omega) (by omega);obtain⟨t,u,o,H⟩:=zFi m n hm i.ok j f (w:=2) (b:=1) (by omega) (by omega) (by omega);refine⟨t, ?_,o,i.trans H⟩;simp(maxSteps:=999999)(disch:=omega) only[f71,eZ,cq,s,u,zNV]
open Go.Nd (Ptr Str)
theorem zOl(q:1000<=n)(C:k.ok)(kind:UInt8){at_:Nat}(Q:1<=at_)(O:at_<8192)(hb:h<=2147483647){body:Str}(hl:body.length<=500):
  ∃H',f196 D n [.int .i64 at_, .agg (jT (sealB kind h body))] k=some (.tuple [.agg (jX (bN at_ h (sealB kind h body))), .int .i64 (0:Nat)],H')/\Prs k H':=by
 obtain⟨B,j⟩: ∃B,B=sealB kind h body:=⟨_,rfl⟩;have H:=sealB_len (kind:=kind) (birth:=h) hl;rw[<-j]at H;obtain⟨S,T,b1,m,F,U,V⟩:=box C (.cells (jT B) 55 1 false);obtain⟨W,A4,b2,a,G,Y,Z⟩:=box m.ok (.cells [.int .i64 (0:Nat), .int .i64 (0:Nat), .int .u64 (0:Nat)] 42 1 false);have p:=zOM a m.ok F;obtain⟨H3,s,f⟩:=zFI D n q a.ok kind hb hl;rw[<-j]at s⊢;obtain⟨I,J,i⟩:=zCf D n q f.ok H;have t:=zOM (f.trans i) a.ok G;have u:=zOM f a.ok p;obtain⟨o,K,L,s5,n5⟩:=kE i.ok t (l':=jX (bN at_ h B)) rfl rfl;have v:stN 3 (.ptr A4 0) (.agg (jX (bN at_ h B))) I=some (jU,o):=K;have M:=ldR p H;have x:=ldR u H;have N:ldN 3 (.ptr A4 0) o=some (.agg (jX (bN at_ h B))):=xN L rfl;have y: ¬(((0:Nat):Int)≠((0:Nat):Int)):=by omega
 have t1: ¬(at_:Int)< ((1:Nat):Int):=by omega
 have t2: ¬((8192:Nat):Int)<=(at_:Int):=by omega
 have z:uO [(0,1),(1,1),(2,1)] [.int .i64 (0:Nat), .int .i64 (0:Nat), .int .u64 (0:Nat)] [(0, .int .i64 at_),(1, .int .i64 h),(2, .int .u64 (sumS B:Nat))]=some (.agg (jX (bN at_ h B))):=rfl;have N2:=a.next;have N3:=f.next;have N4:=i.next
 refine⟨o, ?_,(((m.trans a).trans f).trans i).fresh s5 fun B j=>by omega⟩;simp(maxSteps:=999999)(disch:=omega) only[f196,eZ,b1,b2,M,s,jS,nth,y,t1,t2,x,J,z,v,N]
structure Wr (E:Ev)(H:AH)(Aw As At M Ad:Nat)(c:AV)(txg left la:Nat)(is:Nat->Nat)(root:Ptr)(es:List (AV×AV))(q:PN)(last:Nat)(dr:AV)(Z P:Nat->Prop):Prop where
 ti:TI E H At M (.ptr Ad 0) c root es q last dr
 sp:Spc H As E.nb la is
 few:E.ws.length+cnt is 0 E.nb<=990000
 gw: ∃On Nw wv ds tv ov nt tl ol,DkI H Ad E.nb E.ws On Nw wv ds/\H.h.get Aw=some (.cells [.ptr At 0, .ptr As 0, .int .i64 txg, .int .i64 left,tv,ov] 198 1 false)/\Own 1 3 H tv nt tl/\Own 513 202 H ov nt ol/\nt<=E.ws.length/\(∀B,Z B↔B=Aw\/B=As\/B=Ad\/B=Nw\/Blk wv B\/Blk tv B\/Blk ov B)/\ ¬Z On
 pr: ∀B,P B-> ¬Z B
 pa: ∀B,P B↔B=At\/B=M\/Blk dr B\/ ∃kv∈es,vV kv.2 B
 bd:2<=la\/la=0
 nb:64<=E.nb/\E.nb<=8192/\la<E.nb
 s0:is 0≠0/\is 1≠0
 lf:left<=1000000000
theorem Wr.lt {E:Ev}{H:AH}{i j m M Ad:Nat}{c:AV}{txg left o:Nat}{is:Nat->Nat}{root:Ptr}{es:List (AV×AV)}{q:PN}{h:Nat}{p:AV}{Z P:Nat->Prop}(w:Wr E H i j m M Ad c txg left o is root es q h p Z P): ∀B,Z B->B<H.next:=by
 obtain⟨y,z,C,F,G,I,nt,J,K,f,s,t,u,_,v,_⟩:=w.gw;have a:=w.ti.ok;intro B x;rcases(v B).1 x with rfl | rfl | rfl | rfl | e | e | e
 .exact a.lt s
 .exact w.sp.lt a
 .exact a.lt f.gD
 .exact a.lt f.gN
 .exact Own.lt f.ow e
 .exact Own.lt t e
 .exact Own.lt u e
theorem Wr.prs {E:Ev}{H H':AH}{f h i M Ad:Nat}{c:AV}{txg left j:Nat}{is:Nat->Nat}{root:Ptr}{es:List (AV×AV)}{q:PN}{a:Nat}{m:AV}{Z P:Nat->Prop}(w:Wr E H f h i M Ad c txg left j is root es q a m Z P)(s:Prs H H'):Wr E H' f h i M Ad c txg left j is root es q a m Z P:=by
 obtain⟨o,p,t,u,v,y,nt,z,C,F,G,I,J,K,L,N⟩:=w.gw;exact⟨w.ti.prs s,w.sp.stp w.ti.ok s fun x=>x,w.few,⟨o,p,t,u,v,y,nt,z,C,F.prs w.ti.ok s,zOM s w.ti.ok G,I.mono s fun _ _ x=>x,J.mono s fun _ _ x=>x,K,L,N⟩,w.pr,w.pa,w.bd,w.nb,w.s0,w.lf⟩
theorem TI.wr {E:Ev}{H H':AH}{h M Ad:Nat}{root:Ptr}{es:List (AV×AV)}{q:PN}{m:Nat}{i:AV}{Z:Nat->Prop}(a:TI E H h M (.ptr Ad 0) .nP root es q m i)(s:Stp Z H H')(f: ∀B,(B=h\/B=M\/Blk i B\/ ∃kv∈es,vV kv.2 B)-> ¬Z B){ws:Ws}{p t:Nat}{u:AV}{v:List (AV×AV)}(x:DkI H' Ad E.nb ws p t u v):TI { E with ws:=ws} H' h M (.ptr Ad 0) .nP root es q m i:=
 ⟨s.ok,by rw[s.keep _ (a.ok.lt a.gT) (f _ (.inl rfl))];exact a.gT,by rw[s.keep _ (a.ok.lt a.gM) (f _ (.inr (.inl rfl)))];exact a.gM,a.pq.frame fun kv o C y=>y.stp s fun A j=>f _ (.inr (.inr (.inr ⟨kv,o,j⟩))),⟨_,_,_,_,_,_,rfl,x,zJM.self _⟩, .inl rfl,a.dg.mono s fun A j=>f _ (.inr (.inr (.inl j))),a.ds,a.few,fun B z=>qI (a.xl B z) s.next⟩
theorem uH.old {H:AH} : ∀ {es:List (AV×AV)} {q:PN},uH H es q-> ∀kv∈es,∀B,vV kv.2 B->B<H.next
 | [],[],_=>fun _ h=>by simp at h
 | (k,v)::es,(s,nd)::q,h=>fun kv a B f=>by
  rcases zO.1 a with rfl | a
  .exact h.1.2.lt f
  .exact uH.old h.2 kv a B f
 | [],_::_,h=>h.elim
 | _::_,[],h=>h.elim
theorem Wr.old {E:Ev}{H:AH}{h i j M Ad:Nat}{c:AV}{txg left m:Nat}{is:Nat->Nat}{root:Ptr}{es:List (AV×AV)}{q:PN}{a:Nat}{o:AV}{Z P:Nat->Prop}(w:Wr E H h i j M Ad c txg left m is root es q a o Z P): ∀B,P B->B<H.next:=fun B p=>by
 rcases(w.pa B).1 p with rfl | rfl | e | ⟨kv,f,e⟩
 .exact w.ti.ok.lt w.ti.gT
 .exact w.ti.ok.lt w.ti.gM
 .exact w.ti.dg.lt e
 .exact w.ti.pq.old kv f B e
theorem Spc.bk (H:Spc k h v l A): ∃c,k.h.get h=some (.cells c 145 1 false):=by
 obtain⟨c,g,_⟩:=H;exact⟨c,g⟩
theorem kC {o p:AObj}(A:k.h.get h=some o)(H:k.h.get v=some p)(e:o≠p):h≠v:=fun x=>by
 rw[x,H]at A;exact e (yG A).symm
theorem zKN (m n:Nat)(hm:10000<=m)(hn:1000<=n){E:Ev}{left:Nat->Prop}(b9:Wr E k h v l B J .nP L P R A C H q a t w left)
  (kind:UInt8) {birth:Nat} (hb:birth<=2147483647) {body:Str} (hl:body.length<=500) (hf:0<cnt A 0 E.nb):
  ∃H' j Z',zO5 (dy (m+2)) n [.ptr h 0, .agg (jT (sealB kind birth body))] k=some (.tuple [.agg (jX (bN j birth (sealB kind birth body))), .int .i64 (0:Nat)],H')/\2<=j/\j<E.nb/\A j=0/\
   Wr { E with ws:=E.ws++[(j,sealB kind birth body)] } H' h v l B J .nP L P j (ZD A j 2) C H q a t Z' left/\AdT w k Z' H':=by
 obtain⟨b,root⟩: ∃b,b=sealB kind birth body:=⟨_,rfl⟩;have a0:=sealB_len (kind:=kind) (birth:=birth) hl;rw[<-root]at a0;obtain⟨T,is,wv,ds,K,txg,nt,tl,ol,f,es,U,N,k3,hZ,hO⟩:=b9.gw;have s:=b9.ti.ok;obtain⟨sc,Y⟩:=b9.sp.bk;obtain⟨f2,f3,f4⟩:=b9.nb;have a6:h≠v:=fun e=>by
  obtain⟨c,g,l8,_⟩:=b9.sp;rw[<-e,es]at g;simp only[zC,AObj.cells.injEq]at g;rw[<-g.1]at l8;simp at l8
 have a7:h≠J:=kC es f.gD (by simp);have a8:h≠is:=kC es f.gN (by simp);have a9:h≠T:=kC es f.gO (by simp);have b0: ¬Blk wv h:=fun p=>kC es (f.ow.get p) (by simp) rfl
 have f5: ¬Blk K h:=fun p=>kC es (zOQ U p) (by simp) rfl
 have c2: ¬Blk txg h:=fun p=>kC es (zOQ N p) (by simp) rfl
 have c3:v≠J:=kC Y f.gD (by simp);have c4:v≠is:=kC Y f.gN (by simp);have c5:v≠T:=kC Y f.gO (by simp);have c6: ¬Blk wv v:=fun p=>kC Y (f.ow.get p) (by simp) rfl
 have c7: ¬Blk K v:=fun p=>kC Y (zOQ U p) (by simp) rfl
 have c8: ¬Blk txg v:=fun p=>kC Y (zOQ N p) (by simp) rfl
 have f6: ¬Blk K J:=fun p=>kC f.gD (zOQ U p) (by simp) rfl
 have c9: ¬Blk txg J:=fun p=>kC f.gD (zOQ N p) (by simp) rfl
 have f7: ¬Blk K is:=fun p=>kC f.gN (zOQ U p) (by simp) rfl
 have d0: ¬Blk txg is:=fun p=>kC f.gN (zOQ N p) (by simp) rfl
 have f8: ¬Blk K T:=fun p=>kC f.gO (zOQ U p) (by simp) rfl
 have f9: ¬Blk txg T:=fun p=>kC f.gO (zOQ N p) (by simp) rfl
 have g0: ∀Ad,Blk wv Ad-> ¬Blk K Ad:=fun Ad p i=>kC (f.ow.get p) (zOQ U i) (by simp) rfl
 have d1: ∀Ad,Blk wv Ad-> ¬Blk txg Ad:=fun Ad p i=>kC (f.ow.get p) (zOQ N i) (by simp) rfl
 have g3: ∀Ad,Blk K Ad-> ¬Blk txg Ad:=fun Ad p i=>kC (zOQ U p) (zOQ N i) (by simp) rfl
 have zA:w h:=(hZ h).2 (.inl rfl);have zS:w v:=(hZ v).2 (.inr (.inl rfl));have zD:w J:=(hZ J).2 (.inr (.inr (.inl rfl)));have zN:w is:=(hZ is).2 (.inr (.inr (.inr (.inl rfl))));have zw: ∀Ad,Blk wv Ad->w Ad:=fun Ad p=>(hZ Ad).2 (.inr (.inr (.inr (.inr (.inl p)))))
 have zt: ∀Ad,Blk K Ad->w Ad:=fun Ad p=>(hZ Ad).2 (.inr (.inr (.inr (.inr (.inr (.inl p))))))
 have zo: ∀Ad,Blk txg Ad->w Ad:=fun Ad p=>(hZ Ad).2 (.inr (.inr (.inr (.inr (.inr (.inr p))))))
 obtain⟨H1,A3,b1,p1,g1,m1,n1⟩:=box s (.cells (jT b) 55 1 false);obtain⟨H2,A4,b2,p2,g2,m2,n2⟩:=box p1.ok (.cells [.int .i64 (0:Nat), .int .i64 (0:Nat), .int .u64 (0:Nat)] 42 1 false);have P2:=p1.trans p2;have N1:=p1.next;have N2:=p2.next
 have zl:=b9.lt;obtain⟨H3,j,e3,j2,jn,j0,g5,F⟩:=zIc m n hm (by omega) p2.ok (b9.sp.stp s P2 (fun x=>x)) f4 (by omega) b9.s0.1 b9.s0.2 hf;have N3:=F.next
 have d2: ∀ {la:Nat} {o:AObj},k.h.get la=some o->la≠v->H3.h.get la=some o:=fun {la o} g p=>by
  rw[F.keep la (by have:=s.lt g;omega) p];exact zOM P2 s g
 have d3:=d2 es a6;have g7:Own 1 3 H3 K nt tl:=(U.mono P2 fun _ _ x=>x).mono F fun Ad root e=>c7 (e▸root)
 obtain⟨H4,A5,b4,G,g4,m4,n4⟩:=box F.ok (.cells [.int .i64 ((j:Nat):Int)] 3 1 false);have N4:=G.next
 have e1:srcOf 1 (.slice A5 0 1 2) H4=some (1,[.int .i64 ((j:Nat):Int)]):=by simp only[srcOf,g4];rfl
 have k4:=b9.few;have k5:=f.few;obtain⟨H5,e5,g9,s5,n5⟩:=bK (bytes:=8) (m:=1) G.ok (by decide) (g7.mono G fun _ _ x=>x) e1 rfl rfl (by omega) (by omega) (by decide);have N5:=s5.next
 have h0:=zOM G F.ok d3;have h4:H5.h.get h=_:=(s5.keep _ (by have:=s.lt es;omega) f5).trans h0;obtain⟨V,e6,g6,O,n6⟩:=xI s5.ok h4 (o:=4) (x:= .slice H4.next 0 (nt+1) 1) rfl (by simp)
 have N6:=O.next
 have a5: ∀ {la:Nat} {o:AObj},k.h.get la=some o->la≠v->la≠h-> ¬Blk K la->V.h.get la=some o:=fun {la o} g h1 h2 h3=>by
  have:=s.lt g;rw[O.keep la (by omega) h2,s5.keep la (by omega) h3];exact zOM G F.ok (d2 g h1)
 have h5:DkI V J E.nb E.ws T is wv ds:=by
  refine⟨a5 f.gD c3.symm a7.symm f6,a5 f.gO c5.symm a9.symm f8,a5 f.gN c4.symm a8.symm f7, ?_,f.nw,f.ln,f.few,f.ne⟩;exact((((f.ow.mono P2 fun _ _ x=>x).mono F fun Ad root e=>c6 (e▸root)).mono G fun _ _ x=>x).mono s5 fun Ad root i=>g0 Ad root i).mono O fun Ad root e=>b0 (e▸root)
 obtain⟨H7,b3,d4,e7,h6,y,a3⟩:=V4 (dy (m+2)) n O.ok h5 jn a0 (by omega);have N7:=y.next
 have d5:V.h.get h=_:=g6;have d6:H7.h.get h=_:=(y.keep _ (by have:=s.lt es;omega) (fun e=>by rcases e with e | e | e;exact a7 e;exact a8 e;exact b0 e)).trans d5;obtain⟨Z0,d7⟩: ∃Z0:Str,Z0=List.replicate 512 0:=⟨_,rfl⟩;have h7:rep 512 [AV.int .u8 (0:Nat)]=jT Z0:=by rw[dB,d7]
 have h8:(jT Z0).length=512:=by rw[jY,d7];exact List.length_replicate
 have b5:(jT b).length=512:=by rw[jY,a0]
 obtain⟨q1,q2⟩:=zHo 202 (x:= .int .i64 ((j:Nat):Int)) (c:= .int .i64 (0:Nat)) h8 b5 rfl;obtain⟨H8,A6,b8,I,g8,m8,n8⟩:=box y.ok (.cells (.int .i64 ((j:Nat):Int)::jT b) 202 513 false);have N8:=I.next
 have e2:srcOf 513 (.slice A6 0 1 2) H8=some (1,wV (j,b)):=by
  have h9:uW (AV.int .i64 ((j:Nat):Int)::jT b) 0 (1*513)=some (wV (j,b)):=by
   rw[kZ _ _ _ (.inr (by simp[b5])),yD,zZ (by simp[b5])];rfl
  simp only[srcOf,g8,h9]
 have i0:Own 513 202 V txg nt ol:=((((N.mono P2 fun _ _ x=>x).mono F fun Ad root e=>c8 (e▸root)).mono G fun _ _ x=>x).mono s5 fun Ad root i=>g3 Ad i root).mono O fun Ad root e=>c2 (e▸root)
 have i1:Own 513 202 H7 txg nt ol:=i0.mono y fun Ad root e=>by
  rcases e with e | e | e
  .exact c9 (e▸root)
  .exact d0 (e▸root)
  .exact d1 Ad e root
 have i2:jV (wV (j,b))=true:=by
  have:=bytesV_cells b;simp only[wV,jV,this];rfl
 obtain⟨H9,e9,i3,Q,n9⟩:=bK (bytes:=520) (m:=1) I.ok (by decide) (i1.mono I fun _ _ x=>x) e2 (by rw[zCo a0]) i2 (by omega) (by omega) (by decide);have N9:=Q.next
 have i4:H9.h.get h=_:=(Q.keep _ (by have:=s.lt es;omega) c2).trans (zOM I y.ok d6);obtain⟨i5,i6,i7,M,k6⟩:=xI Q.ok i4 (o:=5) (x:= .slice H8.next 0 (nt+1) 1) rfl (by simp)
 have k7:=M.next
 obtain⟨i8,d8,z⟩:=zOl (dy (m+2)) n hn M.ok kind (at_:=j) (by omega) (by omega) hb hl;rw[<-root]at d8;have k8:=z.next
 have d9: ∀ {la:Nat} {o:AObj},H2.h.get la=some o->k.next<=la->V.h.get la=some o:=fun {la o} g p=>by
  have:=p2.ok.lt g;rw[O.keep la (by omega) (by have:=s.lt es;omega),s5.keep la (by omega) (fun root=>by have:=Own.lt U root;omega),G.keep la (by omega) (fun x=>x),F.keep la (by omega) (by have:=s.lt Y;omega)];exact g
 have b6:=d9 (zOM p2 p1.ok g1) (by omega);have i9:=d9 g2 (by omega);have z6: ∀Ad,(Ad=J\/Ad=is\/Blk wv Ad)->Ad<k.next:=fun Ad root=>by
  rcases root with e | e | e
  .exact zl Ad (e▸zD)
  .exact zl Ad (e▸zN)
  .exact zl Ad (zw Ad e)
 have e0: ∀ {la:Nat} {o:AObj},V.h.get la=some o->k.next<=la->la<H3.next->i5.h.get la=some o:=fun {la o} g p h3=>by
  rw[M.keep la (by omega) (by have:=s.lt es;omega),Q.keep la (by omega) (fun root=>by have:=Own.lt N root;omega),I.keep la (by omega) (fun x=>x),y.keep la (by omega) (fun root=>by have:=z6 la root;omega)];exact g
 have c0:=e0 b6 (by omega) (by omega);have e4:=zOM z M.ok (e0 i9 (by omega) (by omega));obtain⟨a4,j1,j3,S,k9⟩:=kE z.ok e4 (l':=jX (bN j birth b)) rfl rfl;have e8:stN 3 (.ptr A4 0) (.agg (jX (bN j birth b))) i8=some (jU,a4):=j1;have l0:=S.next
 have j4:ldN 3 (.ptr A4 0) a4=some (.agg (jX (bN j birth b))):=xN j3 rfl;have j5:=ldR b6 a0;have l1:H9.h.get A3=some (.cells (jT b) 55 1 false):=by
  rw[<-M.keep A3 (by omega) (by have:=s.lt es;omega)];exact c0
 have j6:H7.h.get A3=some (.cells (jT b) 55 1 false):=by
  rw[y.keep A3 (by omega) (fun root=>by have:=z6 A3 root;omega)];exact b6
 have f1:=ldR c0 a0;have j7:=ldR j6 a0;have j8:=zOM P2 s es;have w1:Eng.ld1 (.ptr h 1) H2=some (.ptr v 0):=by rw[jR j8];rfl
 have w4:Eng.ld1 (.ptr h 4) H3=some K:=by rw[jR d3];rfl
 have w0:Eng.ld1 (.ptr h 0) V=some (.ptr l 0):=by rw[jR d5];rfl
 have w5:Eng.ld1 (.ptr h 5) H7=some txg:=by rw[jR d6];rfl
 have b7:left l:=(b9.pa l).2 (.inl rfl);have j9:V.h.get l=_:=a5 b9.ti.gT (fun e=>b9.pr l b7 (e▸zS)) (fun e=>b9.pr l b7 (e▸zA)) (fun e=>b9.pr l b7 (zt l e));have wT:Eng.ld1 (.ptr l 0) V=some (.ptr J 0):=by rw[jR j9];rfl
 have k0: ¬(((0:Nat):Int)≠((0:Nat):Int)):=by omega
 refine⟨a4,j,fun Ad=>Ad=h\/Ad=v\/Ad=J\/Ad=is\/Blk b3 Ad\/Blk (.slice H4.next 0 (nt+1) 1) Ad\/Blk (.slice H8.next 0 (nt+1) 1) Ad, ?_,j2,jn,j0, ?_, ?_⟩
 .rw[<-root];simp(maxSteps:=999999)(disch:=omega) only[zO5,eZ,b1,b2,w1,e3,jS,nth,k0,w4,zLg 3 (.int .i64 (0:Nat)) (show isCell (.int .i64 ((j:Nat):Int))=true from rfl),b4,e5,e6,w0,wT,j5,e7,w5,j7,h7,qF,yE,q1,q2,b8,e9,i6,f1,d8,e8,j4]
 ·
  have l2:=s.lt es;have l3:=s.lt Y;have c1:DkI a4 J E.nb (E.ws++[(j,sealB kind birth body)]) T is b3 d4:=by
   rw[<-root];have lD:=zl J zD;have lN:=zl is zN;have lO:=s.lt f.gO;refine((((h6.prs y.ok I).stp I.ok Q c9 f9 d0 fun Ad hb W=> ?_).stp Q.ok M a7.symm a9.symm a8.symm fun Ad hb W=> ?_).prs M.ok z).stp z.ok S (by omega) (by omega) (by omega) fun Ad hb W=> ?_
   .rcases a3 Ad hb with x | x
    .exact d1 Ad x W
    .have:=Own.lt N W;omega
   .rcases a3 Ad hb with x | x
    .exact b0 (W▸x)
    .omega
   .rcases a3 Ad hb with x | x
    .have:=zl Ad (zw Ad x);omega
    .omega
  have st:Stp w k a4:=⟨S.ok,by omega,fun Ad root u=>by
   have a1:Ad≠h:=fun e=>u (e▸zA)
   have a2:Ad≠v:=fun e=>u (e▸zS)
   rw[S.keep Ad (by omega) (by omega),z.keep Ad (by omega) (fun x=>x),M.keep Ad (by omega) a1,Q.keep Ad (by omega) (fun p=>u (zo Ad p)),I.keep Ad (by omega) (fun x=>x),y.keep Ad (by omega) (fun p=>by rcases p with e | e | e;exact u (e▸zD);exact u (e▸zN);exact u (zw Ad e)),O.keep Ad (by omega) a1,s5.keep Ad (by omega) (fun p=>u (zt Ad p)),G.keep Ad (by omega) (fun x=>x),F.keep Ad (by omega) a2,P2.keep Ad root (fun x=>x)]⟩
  obtain⟨k1,k2⟩:=(KY (b:=2) j0 (by omega) (n:=E.nb)).1 jn;refine⟨b9.ti.wr st (fun Ad root=>b9.pr Ad ((b9.pa Ad).2 root)) c1, ?_, ?_,⟨T,is,b3,d4,_,_,nt+1,tl++[.int .i64 ((j:Nat):Int)],ol++wV (j,b),c1, ?_, ?_, ?_, ?_,fun Ad=>Iff.rfl, ?_⟩,fun Ad root W=> ?_,b9.pa, .inl j2,⟨f2,f3,jn⟩, ?_,b9.lf⟩
  .refine((((((((g5.stp F.ok G fun x=>x).stp G.ok s5 c7).stp s5.ok O a6.symm).stp O.ok y fun e=> ?_).stp y.ok I fun x=>x).stp I.ok Q c8).stp Q.ok M a6.symm).stp M.ok z fun x=>x).stp z.ok S (by omega);rcases e with e | e | e
   .exact c3 e
   .exact c4 e
   .exact c6 e
  .simp only[zV,jI];omega
  .rw[S.keep h (by omega) (by omega)];exact zOM z M.ok i7
  .refine((((((g9.mono O fun Ad hb e=> ?_).mono y fun Ad hb e=> ?_).mono I fun _ _ x=>x).mono Q fun Ad hb e=> ?_).mono M fun Ad hb e=> ?_).mono z fun _ _ x=>x).mono S fun Ad hb e=> ?_
   all_goals rw[zOG.1 hb]at e
   .omega
   .have:=z6 _ e;omega
   .have:=Own.lt N e;omega
   .omega
   .omega
  .refine((i3.mono M fun Ad hb e=> ?_).mono z fun _ _ x=>x).mono S fun Ad hb e=> ?_
   all_goals rw[zOG.1 hb]at e;omega
  .simp only[zV,jI];omega
  .intro p;have lO:=s.lt f.gO;rcases p with e | e | e | e | e | e | e
   .exact a9 e.symm
   .exact c5 e.symm
   .exact hO (e▸zD)
   .exact f.ne e
   .rcases a3 T e with x | x
    .exact hO (zw T x)
    .omega
   .rw[zOG.1 e]at lO;omega
   .rw[zOG.1 e]at lO;omega
  .have lP:=b9.old Ad root;have hn:=b9.pr Ad root;rcases W with e | e | e | e | e | e | e
   .exact hn (e▸zA)
   .exact hn (e▸zS)
   .exact hn (e▸zD)
   .exact hn (e▸zN)
   .rcases a3 Ad e with x | x
    .exact hn (zw Ad x)
    .omega
   .rw[zOG.1 e]at lP;omega
   .rw[zOG.1 e]at lP;omega
  .rw[vL (by omega),vL (by omega)];exact b9.s0
 .refine⟨⟨S.ok,by omega,fun Ad root u=> ?_⟩,fun Ad W=> ?_⟩
  .have a1:Ad≠h:=fun e=>u (e▸zA)
   have a2:Ad≠v:=fun e=>u (e▸zS)
   rw[S.keep Ad (by omega) (by omega),z.keep Ad (by omega) (fun x=>x),M.keep Ad (by omega) a1,Q.keep Ad (by omega) (fun p=>u (zo Ad p)),I.keep Ad (by omega) (fun x=>x),y.keep Ad (by omega) (fun p=>by rcases p with e | e | e;exact u (e▸zD);exact u (e▸zN);exact u (zw Ad e)),O.keep Ad (by omega) a1,s5.keep Ad (by omega) (fun p=>u (zt Ad p)),G.keep Ad (by omega) (fun x=>x),F.keep Ad (by omega) a2,P2.keep Ad root (fun x=>x)]
  .rcases W with e | e | e | e | e | e | e
   .exact .inl (e▸zA)
   .exact .inl (e▸zS)
   .exact .inl (e▸zD)
   .exact .inl (e▸zN)
   .rcases a3 Ad e with x | x
    .exact .inl (zw Ad x)
    .exact .inr (by omega)
   .rw[zOG.1 e];exact .inr (by omega)
   .rw[zOG.1 e];exact .inr (by omega)
open Go.Bt
theorem zJ2 (p:Ptr)(l:List Ptr):dsk (p::l)=if p.at_=1 then dsk l else p::dsk l:=by
 by_cases e:p.at_=1<;>simp[dsk,e]
theorem UO  :C∈dsk i↔C∈i/\C.at_≠1:=by simp[dsk]
theorem Ev.K_keep {E:Ev}(h:E.K C=some p)(hb:blkAt C.at_.toNat V=blkAt C.at_.toNat E.ws):Ev.K { E with ws:=V} C=some p:=by
 obtain⟨a,birth,kind,body,rfl,i,j,m,o,h5,ws',q,s⟩:=zOI.1 h;refine zOI.2 ⟨a,birth,kind,body,rfl,i,j,m,o,h5, ?_,q,s⟩;have e:(bN a birth (sealB kind birth body)).at_.toNat=a:=by simp[bN]
 rw[e]at hb;exact hb.trans ws'
structure WOut (nb:Nat)(ws ws':Ws)(is is':Nat->Nat)(T T':List Ptr):Prop where
 pm: ∃news,T'.Perm (dsk T++news)/\news.Nodup/\news.length=cp T/\ ∀r∈news,2<=r.at_/\is r.at_.toNat=0/\is' r.at_.toNat≠0
 up: ∀i,is' i=is i\/(is i=0/\is' i=2)
 ct:cnt is' 0 nb+cp T=cnt is 0 nb
 bk: ∀a,is a≠0->blkAt a ws'=blkAt a ws
 ln:ws'.length=ws.length+cp T
theorem WOut.nil (nb:Nat)(a:Ws)(is:Nat->Nat){T:List Ptr}(h: ∀r∈T,r.at_≠1):WOut nb a a is is T T:=by
 have e:dsk T=T:=List.filter_eq_self.2 fun p hp=>by simpa using h p hp
 have c:cp T=0:=by
  rw[cp,List.length_eq_zero_iff];exact List.filter_eq_nil_iff.2 fun p hp=>by simpa using h p hp
 exact⟨⟨[],by simp[e],by simp,by rw[c];rfl,by simp⟩,fun _=> .inl rfl,by omega,fun _ _=>rfl,by omega⟩
theorem WOut.nz {ws':Ws}(w:WOut h V ws' A f i M)(nb:A v≠0):f v≠0:=by
 rcases w.up v with e | ⟨e,_⟩<;>omega
theorem WOut.used {ws':Ws}(w:WOut h V ws' A f i M)(nb: ∀r∈i,r.at_≠1->A r.at_.toNat≠0): ∀r∈M,r.at_≠1/\f r.at_.toNat≠0:=fun r hr=>by
 obtain⟨s,p,_,_,m⟩:=w.pm;rcases qB.1 (p.mem_iff.1 hr)with e | e
 .obtain⟨o,j⟩:=UO.1 e;exact⟨j,w.nz (nb r o j)⟩
 .obtain⟨t,_,q⟩:=m r e;exact⟨by omega,q⟩
theorem WOut.app {m o:Ws}{q:Nat->Nat}(w:WOut h V m A f i M)(v:WOut h m o f q W g):WOut h V o A q (i++W) (M++g):=by
 obtain⟨G,I,J,K,z⟩:=w.pm;obtain⟨L,p,N,O,C⟩:=v.pm;refine⟨⟨G++L, ?_, ?_,by rw[aB,zV,K,O],fun r hr=> ?_⟩,fun is=> ?_, ?_,fun a s=> ?_, ?_⟩
 .rw[zCa];refine(I.append p).trans ?_;rw[List.perm_iff_count];intro a;simp only[List.count_append];omega
 .refine List.nodup_append.2 ⟨J,N,fun a s b hb e=> ?_⟩;subst e;exact(z a s).2.2 (C a hb).2.1
 .rcases qB.1 hr with e | e
  .obtain⟨nb,F,j⟩:=z r e;exact⟨nb,F,v.nz j⟩
  .obtain⟨nb,F,j⟩:=C r e;refine⟨nb, ?_,j⟩;rcases w.up r.at_.toNat with x | ⟨x,y⟩
   .omega
   .exact x
 .rcases w.up is with a | ⟨a,b⟩<;>rcases v.up is with c | ⟨c,d⟩
  .exact .inl (by omega)
  .exact .inr ⟨by omega,d⟩
  .exact .inr ⟨a,by omega⟩
  .omega
 .have:=w.ct;have:=v.ct;rw[aB];omega
 .rw[v.bk a (w.nz s),w.bk a s]
 .have:=w.ln;have:=v.ln;rw[aB];omega
theorem WOut.put {m:Ws}{o:List Ptr}(w:WOut h V m A f i o){s birth:Nat}{b:Str}(y:2<=v)(jn:v<h)(p:f v=0):WOut h V (m++[(v,b)]) A (ZD f v 2) (pp s::i) (bN v birth b::o):=by
 have u:WOut h m (m++[(v,b)]) f (ZD f v 2) [pp s] [bN v birth b]:=by
  obtain⟨k1,k2⟩:=(KY (b:=2) p (by omega) (n:=h)).1 jn;refine⟨⟨[bN v birth b],by simp[dsk,pp],by simp,by simp[cp,pp],fun r hr=> ?_⟩,fun q=> ?_, ?_,fun a is=> ?_,by simp[cp,pp]⟩
  .obtain rfl:r=bN v birth b:=by simpa using hr
   have:(bN v birth b).at_.toNat=v:=by simp[bN]
   rw[this,uD];exact⟨by simp[bN];omega,p,by omega⟩
  .by_cases e:q=v
   .subst e;exact .inr ⟨p,uD ..⟩
   .exact .inl (vL e)
  .simp only[cp,pp,decide_true,List.filter_cons_of_pos,List.filter_nil,jI];omega
  .rw[cL,if_neg (fun e:v=a=>is (by rw[<-e];exact p))]
 have nb:=w.app u;refine⟨?_,nb.up, ?_,nb.bk, ?_⟩
 .obtain⟨t,a,b,c,d⟩:=nb.pm;refine⟨t, ?_,b, ?_,d⟩
  .have x:(bN v birth ‹_› ::o).Perm (o++[bN v birth ‹_›]):=(List.perm_append_singleton _ _).symm;refine x.trans (a.trans ?_);rw[zCa,zJ2];simp[dsk,pp]
  .rw[c,aB,fO];simp[pp,cp,Nat.add_comm]
 .have:=nb.ct;rw[aB]at this;rw[fO];simp only[fO,zH8]at this;omega
 .have:=nb.ln;rw[aB]at this;rw[fO];simp only[fO,zH8]at this;omega
def WN (h:Nat)(t:Bt.Tr h):Prop:=(∃lo hi,WF h lo hi t)\/WR h t
theorem WN.gen {h:Nat}{t:Bt.Tr h}(w:WN h t): ∃lo hi,Gen h lo hi t:=by
 rcases w with⟨lo,hi,w⟩ | w
 .exact⟨lo,hi,w.gen⟩
 .exact⟨none,none,w.gen⟩
theorem WN.sz {h:Nat}{t:Bt.Tr h}(w:WN h t):wM h t<=500:=by
 rcases w with⟨lo,hi,w⟩ | w
 .exact w.sz
 .exact w.sz
theorem WN.ne {t:Bt.Tr (h+1)}(w:WN (h+1) t):t.1≠[]:=by
 rcases w with⟨lo,hi,w⟩ | w
 .exact w.2.1
 .exact w.2.1
theorem WN.kid {t:Bt.Tr (h+1)}(w:WN (h+1) t){x:Bt.Tr h}(a:x∈t.2):WN h x:=by
 obtain⟨i,hi,rfl⟩:=jQ a;rcases w with⟨lo,f,w⟩ | w
 .exact .inl ⟨_,_,w.1.2.2.at (zK hi)⟩
 .exact .inl ⟨_,_,w.1.2.2.at (zK hi)⟩
end Go.Eng.Sh
end



