/- A checked evaluator for the program, and what it tells, part 6: no condition. -/
import Derived.Test.YtaaflpnhdkoaeaaGreatO5
set_option linter.all false
set_option linter.unusedVariables false
set_option linter.unusedSimpArgs false
set_option maxHeartbeats 8000000
set_option maxRecDepth 20000
variable (D:Go.Eng.Dyn)(n:Nat){H s:List (Go.Eng.AV×Go.Eng.AV)}{h F:Go.Eng.AH}{k v l B G J N Q R W m u:Nat}{i M r:List Go.Nd.Ptr}{A j:Nat->Nat}{w f:Nat->Prop}{p I U g:Go.Eng.AV}{t:List Go.Eng.AV}{q:Go.Nd.Node}{e P:Go.Eng.Sh.PN}{C:Go.Nd.Ptr}{L:Go.Nd.Kvs}{V:Bool}{Y:List Go.Nd.Node}{a:Go.Eng.Sh.Ev}{c:Go.Bk.Ws}{z:Go.Nd.Ptr->Option Go.Nd.Node}
section
namespace Go.Eng.Sh
open Go.Nd (Ptr sumL d8)
open Go.Bt
variable {E:Ev}{X:Nat->Prop}
theorem Ch.stb {H':AH}(H0:Ch X h F k v l H e p i G J)(a:F.h.get B=some (.cells (.bool V::t) N 1 false))(s:Stp (fun j=>j=B) F H')(q:h.next<=B)(x:B≠v):Ch X h H' k v l H e p i G J:=
 H0.other s (fun N=>x N.symm) (fun N=>by subst N;rw[H0.gF]at a;cases a) (fun j A N=>by subst N;rw[H0.gg.get A]at a;simp at a) (fun kv f j A N=>by
  subst N;obtain⟨y,u⟩:=H0.pf.mem kv f;exact u.nblk a (.inl ⟨_,_,_,_,rfl,fun _ _ N=>by cases N⟩) A) (fun j A=>by subst A;exact q)
theorem xO.stb (H:xO X h p I q)(f:h.h.get k=some (.cells (.bool V::t) v 1 false))(s:Stp (fun B=>B=k) h F):xO X F p I q:=
 ⟨H.1.stp s fun B i v=>by subst v;exact H.1.nblk f (.inl ⟨_,_,_,_,rfl,fun _ _ v=>by cases v⟩) i,H.2⟩
theorem gJ (l:kJ h (.agg t) q): ∃r,t= .bool q.leaf::r/\t.length=4/\jS t=true:=by
 obtain⟨ks,vs,m,e,f,i,j⟩:=l;simp only[AV.agg.injEq]at e;subst e;exact⟨_,rfl,rfl,ZZ _ _ _ _ f.row.isCell i.row.isCell j.row.isCell⟩
theorem zDR (m9 n:Nat)(hn:200000000<=n){es:AH}{i h:Nat}{lk:List AV}{kd:Nd.Node}{V:Bt.Tr (h+1)}{x tk:Bt.Tr h}{Sb Sx:List Ptr}{lo hi:Bd}
  (ti:TI E F k B p I C H e G U) (l0: ∀kv∈H,∀Ac,vU kv.2 Ac->Ac<F.next) (l9: ∀kv∈H,∀Ac,vU kv.2 Ac-> ¬X Ac) (hq: ∀f q,jX f e=some q->f<=G) (ch:Ch X F es k v l s P g M G J)
  (hv:xO X es g (.agg t) q) (d2:xO X es g (.agg lk) kd)
  (n1:q.leaf=false) (n2:q.keys=V.1) (n3:q.vals=[]) (n4:q.kids.length=V.2.length) (wi:Inn (WF h) lo hi V) (c2:V.1≠[]) (hz:wS V.1 V.2.length<=500) (m0:V.2[i]? =some tk)
  (ra:vB (Qf E e []) (wE (Qf E e []) h) (q.kids.take i) (V.2.take i) r) (rb:vB (Qf E e []) (wE (Qf E e []) h) (q.kids.drop (i+1)) (V.2.drop (i+1)) Sb)
  (rx:wE (Qf E e P) h kd x Sx) (wx:WX h (Q1 lo V.1 i) (fU V.1 hi i) x) (e0:0<h->kd.keys≠[]) (hb:J<=700000000) (m4:M.length+1<=J+1000):
  ∃u H' W c1 g' i3 y c H0 O gl R,f129 (dy (m9+1)) n [.ptr v 0, .agg t, .int .i64 (i:Nat), .agg lk] es=some (.tuple [u, .int .i64 (0:Nat)],H')/\
   Ch X F H' k v l W c1 g' i3 G y/\Adv v l es g H' g'/\xO X H' g' u c/\wE (Qf E e c1) (h+1) c H0 O/\Inn (WF h) lo hi H0/\
   con (h+1) H0=(V.2.take i).flatMap (con h)++con h x++(V.2.drop (i+1)).flatMap (con h)/\wS H0.1 H0.2.length<=wS V.1 V.2.length+285/\V.1.length<=H0.1.length+1/\J<=y/\y<=J+6/\i3=M++gl/\
   O.Perm (pps J (y - J)++(R++Sx))/\(r++Sb).Perm (gl++R)/\(∀d q,Qf E e P d=some q->Qf E e c1 d=some q)/\gl.length<=1:=by
 obtain⟨m6,rfl⟩:=qP.1 m0;have q9:=wi.2.2.len;obtain⟨rn,r0,r3,r4⟩:=gJ hv.1;obtain⟨rk,m7,b8,r6⟩:=gJ d2.1;obtain⟨H1,A5,b1,p1,g1,m1,r7⟩:=box ch.prs.ok (.cells t 119 1 false);obtain⟨H2,A7,b2,p2,g2,m2,r8⟩:=box p1.ok (.cells lk 119 1 false);obtain⟨H3,A8,b3,p3,g3,m3,r9⟩:=box p2.ok (.cells [.bool false, .nS, .nS, .nS] 119 1 false);have P3:Prs es H3:=(p1.trans p2).trans p3;have m8:=zOs p3 p2.ok (zOs p2 p1.ok g1);have d3:=zOs p3 p2.ok g2;have f1:small kd:=xQ (by rw[rx.size];have:=wx.sz;omega);obtain⟨z,H4,e4,rfl,p4⟩:=JJ (dy (m9+1)) n P3.ok (d2.1.prs P3).node f1 hn;have L:=P3.trans p4;have d4:=zOs p4 P3.ok m8;have i5:=zOs p4 P3.ok d3;have i6:=zOs p4 P3.ok g3;have a6:=ch.step L;have N0:=ch.prs.next
 have cc:=ch.ltC;have f2: ∀d q,Qf E e [] d=some q->Qf E e P d=some q:=fun d q hp=>by
  have:=UX (new:=P) hq (fun f c hs=>(ch.fs f c hs).1) hp;simpa using this
 have b7: ∀ {ps:List Ptr} {ts:List (Bt.Tr h)} {S:List Ptr},vB (Qf E e []) (wE (Qf E e []) h) ps ts S->vB (Qf E e P) (wE (Qf E e P) h) ps ts S:=fun ln=>ln.mono (fun d _ q hp=>f2 d q hp) (fun q V S1 _ hr=>hr.mono fun d _ q hp=>f2 d q hp)
 have n0:(i:Int)+((1:Nat):Int)=((i+1:Nat):Int):=by omega
 have s0:i<=1000:=by simp only[wS]at hz;omega
 have q6:=rx.size;by_cases d7:wB h x<160
 case neg=>
  have c9: ¬((Nd.size kd:Nat):Int)< ((160:Nat):Int):=by omega
  have fx:Full h x:=by
   cases h with
   | zero=>
    intro l8;have l8:x=([]:Nd.Kvs):=l8;rw[l8]at d7;exact d7 (by decide)
   | succ h=>exact Nat.le_of_not_lt d7
  obtain⟨u,H5,W,c1,y,c,H0,O,e5,a7,st,hu,d5,r5,w5,c5,z5,k5,l1,l2,pm,more⟩:=zA5 (dy (m9+1)) n hn (i:=i) (m:=0) (h:=h) a6 d4 i5 i6 (by omega) (by have:=p1.next;omega) (by have:=p1.next;have:=p2.next;omega) (by have:=p2.next;omega) (by omega) (by have:=p1.next;have:=p2.next;omega)
   (hv.prs L) (d2.prs L) hq n1 n2 n3 n4 wi c2 hz (by simpa using m6) (b7 ra) (by simpa using b7 rb) rx (by simpa using wx) fx e0 (by omega)
  refine⟨u,H5,W,c1,g,M,y,c,H0,O,[],r++Sb, ?_,a7, ?_,hu,r5,w5,by simpa using c5,z5,by omega,l1,l2,by simp, ?_,by simp,more,by simp⟩
  .simp(maxSteps:=999999)(disch:=omega) only[f129,eZ,b1,b2,b3,n0,bF d3 b8,e4,c9];simp only[Nat.add_zero]at e5;rw[e5];rfl
  .refine⟨⟨st.ok,by have:=st.next;have:=L.next;omega,fun Ac K hS=> ?_⟩,fun Ac K=> .inl K⟩
   rw[st.keep Ac (by have:=L.next;omega) (fun Z=>by
    rcases Z with Z | Z
    .exact hS Z
    .have:=p1.next;have:=p2.next;omega)]
   exact L.keep Ac K (fun x=>x)
  .exact pm
 case pos=>
 have c9:((Nd.size kd:Nat):Int)< ((160:Nat):Int):=by omega
 have l3: ∃b root tb a0 Q,q.kids[b]? =some Q/\Qf E e [] Q=some root/\wE (Qf E e []) h root tb a0/\V.2[b]? =some tb/\
   ((b+1=i/\ ∃a2,vB (Qf E e []) (wE (Qf E e []) h) (q.kids.take b) (V.2.take b) a2/\r=a2++(Q::a0))\/(i=0/\b=1/\ ∃a3,vB (Qf E e []) (wE (Qf E e []) h) (q.kids.drop 2) (V.2.drop 2) a3/\Sb=Q::(a0++a3))):=by
  have s1:0<V.1.length:=by
   rcases Nat.eq_zero_or_pos V.1.length with l8 | l8
   .exact absurd (zR l8) c2
   .exact l8
  cases i with
  | zero=>
   have h1:1<V.2.length:=by omega
   rw[show(0+1:Nat)=1 from rfl,qN h1,qN (show 1<q.kids.length by omega)]at rb;obtain⟨root,S1,S2,q1,q2,q3,l8⟩:=rb;exact⟨1,root,V.2[1],S1,_,zK (by omega),q1,q2,zK h1, .inr ⟨rfl,rfl,S2,q3,l8⟩⟩
  | succ j=>
   have h1:j<V.2.length:=by omega
   rw[qQ h1,qQ (show j<q.kids.length by omega)]at ra;obtain⟨T1,T2,r1,r2,l8⟩:=ra.split j;have e1:(q.kids.take j++[q.kids[j]'(by omega)]).take j=q.kids.take j:=jA (by rw[qC];omega);have e2:(q.kids.take j++[q.kids[j]'(by omega)]).drop j=[q.kids[j]'(by omega)]:=j6 (by rw[qC];omega);have e3:(V.2.take j++[V.2[j]]).take j=V.2.take j:=jA (by rw[qC];omega);have e4:(V.2.take j++[V.2[j]]).drop j=[V.2[j]]:=j6 (by rw[qC];omega);rw[e1,e3]at r1;rw[e2,e4]at r2;obtain⟨root,S1,S2,q1,q2,q3,e5⟩:=r2;have q3:S2=[]:=q3;subst q3;exact⟨j,root,V.2[j],S1,_,zK (by omega),q1,q2,zK h1, .inl ⟨rfl,T1,r1,by rw[l8,e5,yC]⟩⟩
 obtain⟨b,root,tb,a0,Q,kb,hs,f3,i8,k9⟩:=l3;obtain⟨f4,rfl⟩:=qP.1 i8;have f5:b<q.kids.length:=by omega
 have n6:q.kids[b]=Q:=by rw[zK f5]at kb;exact y6 kb
 have T:WF h (Q1 lo V.1 b) (fU V.1 hi b) V.2[b]:=KB.at wi.2.2 i8;have n8:=ti.prs a6.prs;obtain⟨ks,s2,ps,f6,k1,k2,k3⟩:=id (hv.prs L).1;simp only[AV.agg.injEq]at f6;obtain⟨H5,i9,b5,p5,g5,m5,n5⟩:=box a6.prs.ok (.cells [.bool false, .nS, .nS, .nS] 119 1 false);obtain⟨vb,H6,e6,p6,f7,d0⟩:=VU m9 n hn (n8.prs p5) hs;obtain⟨lb,rfl,f8,n9⟩:=f7.cells;obtain⟨H7,e7,g7,s7,n7⟩:=kD p6.ok (zOs p6 p5.ok g5) (l':=lb) f8 n9;have j0:stN 4 (.ptr i9 0) (.agg lb) H6=some (jT,H7):=e7;have N4:=L.next;have N5:=p5.next;have N6:=p6.next
 have a4:Prs H4 H7:=(p5.trans p6).fresh s7 (fun Ac K=>by omega);have a9:=a6.step a4;have i0:kJ H7 (.agg lb) root:=f7.stp s7 (fun Ac K l8=>by
  subst l8;exact f7.nblk (zOs p6 p5.ok g5) (.inl ⟨_,_,_,_,rfl,fun _ _ l8=>by cases l8⟩) K)
 have o0:xO X H7 g (.agg lb) root:=by
  rcases d0 with⟨kk,d0⟩ | d5
  .exact i0.hand a9 (fun Ac K=>l0 _ d0 Ac K) (l9 _ d0)
  .refine⟨i0,fun Ac K=>⟨fun hg=> ?_,fun Z=> ?_⟩⟩
   .have h1:=d5 Ac K;have h2:=zOx (a6.step p5).gg.row hg;omega
   .have h1:=d5 Ac K;have h2:=ch.xo Ac Z;have h3:=(a6.step p5).prs.next
    omega
 obtain⟨g',H8,e8,b0,a8⟩:=zG1 (dy (m9+1)) n a9 Q m4 (by omega);have j4:=a9.next (hv.prs (L.trans a4)) a8
 have j5:=a9.next (d2.prs (L.trans a4)) a8
 have j7:=a9.next o0 a8
 have np: ∀ {A:Nat} {At:List AV} {l8:Nat},H7.h.get A=some (.cells At l8 1 false)->A≠v-> ¬chg v l g A:=fun {A At l8} hg c2 hc=>by
  rcases hc with l8 | l8 | l8
  .exact c2 l8
  .rw[l8,a9.gF]at hg;cases hg
  .rw[a9.gg.get l8]at hg;simp at hg
 have M1:=p1.next;have M2:=p2.next;have M3:=p3.next;have M4:=p4.next;have M7:=a4.next
 have d6:=zOs a4 L.ok d4;have j8:=zOs a4 L.ok i5;have j9:=zOs a4 L.ok i6;have f9:H8.h.get A5=some (.cells t 119 1 false):=by rw[a8.1.keep _ (by omega) (np d6 (by omega))];exact d6
 have g0:H8.h.get A7=some (.cells lk 119 1 false):=by rw[a8.1.keep _ (by omega) (np j8 (by omega))];exact j8
 have o1:H8.h.get A8=some (.cells [.bool false, .nS, .nS, .nS] 119 1 false):=by rw[a8.1.keep _ (by omega) (np j9 (by omega))];exact j9
 have i1:H8.h.get i9=some (.cells lb 119 1 false):=by rw[a8.1.keep _ (by omega) (np g7 (by omega))];exact g7
 have k34:bI H4 ps q.kids:=k3.row;obtain⟨q4,i4,g4⟩:=k34.at f5;obtain⟨q7,i7,g6⟩:=(k34.prs a4).at f5;rw[n6]at g4 g6;obtain rfl:q7=q4:=by
  have e1:=i4 .i64 b rfl;rw[i7 .i64 b rfl]at e1;exact y6 e1
 have i2:small root:=xQ (by rw[f3.size];have:=T.sz;omega);have b4:wE (Qf E e P) h root V.2[b] a0:=f3.mono fun d _ q hp=>f2 d q hp
 have k0:0<h->root.keys≠[]:=fun hh=>by
  cases h with
  | zero=>omega
  | succ h=>
   have:=ZA T;rw[f3.2.1];intro l8;rw[l8]at this;simp at this
 have k4: ¬(((0:Nat):Int)≠((0:Nat):Int)):=by omega
 have b6: ∀Hx:AH,Hx.h.get A5=some (.cells t 119 1 false)->ld1 (.ptr A5 3) Hx=some ps/\ld1 (.ptr A5 1) Hx=some ks:=fun Hx hg=>by
  rw[jP hg,jP hg,f6];exact⟨rfl,rfl⟩
 have k6:Strs H8 ks q.keys:=by
  obtain⟨s3,vs',s4,d1,j1,j2,j3⟩:=id j4.1;simp only[AV.agg.injEq]at d1;rw[f6]at d1;simp only[qU,and_true]at d1;obtain⟨_,rfl,_,_⟩:=d1;exact j1.row
 have k7: ∀(j m:Nat) (sep:Str) (u:AV) (c3:Nd.Node) (x':Bt.Tr h) (g8 a2 a3:List Ptr) (H9:AH),Prs H8 H9->Q0 H8 H9 u c3->wE (Qf E e P) h c3 x' g8->WX h (Q1 lo V.1 j) (fU V.1 hi (j+m)) x'->Full h x'->(0<h->c3.keys≠[])->j+m<V.2.length->
   vB (Qf E e P) (wE (Qf E e P) h) (q.kids.take j) (V.2.take j) a2->vB (Qf E e P) (wE (Qf E e P) h) (q.kids.drop (j+m+1)) (V.2.drop (j+m+1)) a3->
   ∃a5,stN 4 (.ptr A7 0) u H9=some (jT,a5)/\ ∃u H' W c1 y c H0 O,zAH (dy (m9+1)) n [.ptr v 0, .ptr A5 0, .ptr A7 0, .ptr A8 0, .int .i64 (j:Nat), .int .i64 (j+m+1:Nat)] a5=some (.ret (.tuple [u, .int .i64 (0:Nat)]),H')/\
    Ch X F H' k v l W c1 g' (M++[Q]) G y/\Adv v l es g H' g'/\xO X H' g' u c/\wE (Qf E e c1) (h+1) c H0 O/\Inn (WF h) lo hi H0/\
    con (h+1) H0=(V.2.take j).flatMap (con h)++con h x'++(V.2.drop (j+m+1)).flatMap (con h)/\wS H0.1 H0.2.length<=wS V.1 V.2.length+285/\V.1.length<=H0.1.length+m/\J<=y/\y<=J+6/\
    O.Perm (pps J (y - J)++(a2++a3++g8))/\ ∀d q,Qf E e P d=some q->Qf E e c1 d=some q:=by
  intro j m sep u c3 x' g8 a2 a3 H9 dr w9 o2 o3 o4 l4 c4 g9 h0;have k8:=w9.free;obtain⟨lu,rfl,s5,o5⟩:=k8.1.cells;have o6:=b0.step dr;have o7:xO X H9 g' (.agg lu) c3:=vQ.hand b0 (zP _) k8;have c6:=zOs dr b0.prs.ok g0;obtain⟨a5,b9,o8,c0,s6⟩:=kD dr.ok c6 (l':=lu) (by omega) o5;have l5:stN 4 (.ptr A7 0) (.agg lu) H9=some (jT,a5):=by rw[b8]at b9;exact b9
  rw[m7]at c6;have l6:=o6.stb c6 c0 (by omega) (by omega);have N8:=a8.1.next;have N9:=dr.next
  have o9:a5.h.get A5=some (.cells t 119 1 false):=by rw[c0.keep _ (by omega) (by omega)];exact zOs dr b0.prs.ok f9
  have p0:a5.h.get A8=some (.cells [.bool false, .nS, .nS, .nS] 119 1 false):=by rw[c0.keep _ (by omega) (by omega)];exact zOs dr b0.prs.ok o1
  obtain⟨u',H',W,c1,y,c,H0,O,e5,a7,st,hu,d5,r5,w5,c5,z5,k5,l1,l2,pm,more⟩:=zA5 (dy (m9+1)) n hn (i:=j) (m:=m) (h:=h) l6 o9 o8 p0 (by omega) (by omega) (by omega) (by omega) (by omega) (by omega)
   ((j4.prs dr).stb c6 c0) (o7.stb c6 c0) hq n1 n2 n3 n4 wi c2 hz c4 g9 h0 o2 o3 o4 l4 (by omega)
  refine⟨a5,l5,u',H',W,c1,y,c,H0,O,e5,a7, ?_,hu,r5,w5,c5,z5,k5,l1,l2,pm,more⟩;refine⟨⟨st.ok,by have:=st.next;omega,fun Ac K hS=> ?_⟩,fun Ac K=> ?_⟩
  .have a1:H8.h.get Ac=es.h.get Ac:=by
    rw[a8.1.keep Ac (by omega) hS,a4.keep Ac (by omega) (fun x=>x)];exact L.keep Ac K (fun x=>x)
   rw[st.keep Ac (by omega) (fun Z=>by
    rcases Z with Z | Z
    .rcases Z with l8 | l8 | l8
     .exact hS (.inl l8)
     .exact hS (.inr (.inl l8))
     .rcases a8.2 Ac l8 with l8 | l8
      .exact hS (.inr (.inr l8))
      .omega
    .omega),c0.keep Ac (by omega) (by omega),dr.keep Ac (by omega) (fun x=>x)]
   exact a1
  .rcases a8.2 Ac K with l8 | l8
   .exact .inl l8
   .exact .inr (by omega)
 rcases k9 with⟨p7,a2,g9,rfl⟩ | ⟨rfl,rfl,a3,h0,rfl⟩
 ·
  subst p7;have N:b<V.1.length:=by omega
  have Y:=wi.1 _ (yI N);have s8:V.1.getD b []=V.1[b]:=by rw[qG,zK N];rfl
  have h4:fU V.1 hi b=some V.1[b]:=by simp only[fU,zK N]
  have h5:Q1 lo V.1 (b+1)=some V.1[b]:=by simp only[Q1,zK N]
  rw[h4]at T;rw[h5]at wx;have c4:=zCI b4 rx T.gen wx.gen Y.1 k0 e0 (wE.kidOk b4) (wE.kidOk rx);obtain⟨u,H9,e9,dr,w9⟩:=zFM (dy (m9+1)) n hn b0.prs.ok (sep:=V.1[b]) j7.1.node j5.1.node i2 f1;rw[c4]at e9 w9;simp only[if_true]at e9 w9;have c7:=XB Y.1;have js:=K1 h V.2[b] V.1[b] x c7;have wj:WX h (Q1 lo V.1 b) (fU V.1 hi (b+1)) (ZH h V.2[b] V.1[b] x):=Gen.wx (zCJ T.gen wx.gen ⟨Y.1,by
   have q8:=KB.at wi.2.2 (zK f4)
   cases b with
   | zero=>exact Y.2.1
   | succ b'=>
    simp only[Q1,zK (show b'<V.1.length by omega)];have:=(Nd.rising_ix ltS V.1).1 wi.2.1 b' N;exact this,by
   by_cases l8:b+1<V.1.length
   .simp only[fU,zK l8];exact(Nd.rising_ix ltS V.1).1 wi.2.1 b l8
   .simp only[fU,List.getElem?_eq_none (show V.1.length<=b+1 by omega)];exact Y.2.2⟩) (by have:=T.sz;omega)
  obtain⟨a5,b9,u',H',W,c1,y,c,H0,O,e5,a7,h6,hu,r5,w5,c5,z5,k5,l1,l2,pm,more⟩:=k7 b 1 V.1[b] u _ _ (a0++Sx) a2 Sb H9 dr w9 (wE.join b4 rx V.1[b]) wj (zAv c7 (.inl T.full)) (fun hh l8=>by
   cases h with
   | zero=>omega
   | succ h=>
    have:(d8 root V.1[b] kd).keys=root.keys++([V.1[b]]++kd.keys):=by simp only[d8,b4.1,zM,qE]
    rw[this]at l8;simp at l8) (by omega) (b7 g9) (b7 rb)
  refine⟨u',H',W,c1,g',M++[Q],y,c,H0,O,[Q],a2++(a0++Sb), ?_,a7,h6,hu,r5,w5, ?_,z5,k5,l1,l2,rfl, ?_, ?_,more,by simp⟩
  .have p8:((b+1:Nat):Int) - ((1:Nat):Int)=((b:Nat):Int):=by omega
   have q0: ¬((b+1:Nat):Int)=((0:Nat):Int):=by omega
   have h7:mn2 (.int .i64 (b+1:Nat)) (.int .i64 ((b:Nat):Int))=some (.int .i64 ((b:Nat):Int)):=by
    have:ilt ((b:Nat):Int) ((b+1:Nat):Int)=true:=by rw[uG];simp;omega
    simp only[mn2,this,zU]
   have h8:mx2 (.int .i64 (b+1:Nat)) (.int .i64 ((b:Nat):Int))=some (.int .i64 (b+1:Nat)):=by
    have:ilt ((b+1:Nat):Int) ((b:Nat):Int)=false:=by rw[uG];simp;omega
    simp only[mx2,this,yH]
   have d9:((b:Nat):Int)< ((b+1:Nat):Int):=by omega
   have l7:((b+1:Nat):Int)+((1:Nat):Int)=((b+1+1:Nat):Int):=by omega
   obtain⟨qk,ik,c8⟩:=k6.at (i:=b) (by rw[n2];exact N);have h9:q.keys[b]'(by rw[n2];exact N)=V.1[b]:=by simp[n2]
   rw[h9]at c8;simp(config:= { maxSteps:=2000000}) (disch:=omega) only[f129,eZ,b1,b2,b3,l7,bF d3 b8,e4,c9,p8,q0,zD0,jP a6.gC,(b6 H4 d4).1,i4,g4,b5,e6,jR,nth,j0,k4,(b6 H7 d6).1,i7,g6,e8,h7,h8,d9,bF i1 f8,(b6 H8 f9).2,ik,c8,bF g0 b8,e9,b9,zAI,e5]
  .rw[c5,zDb,qQ f4,jJ,qM,List.flatMap_nil,yC];simp only[qH]
  .rw[List.perm_iff_count]at pm⊢;intro a;have:=pm a;simp only[List.count_append,List.count_cons]at this⊢;omega
  .rw[List.perm_iff_count];intro a;simp only[List.count_append,List.count_cons,List.count_nil];omega
 ·
  have N:0<V.1.length:=by omega
  have Y:=wi.1 _ (yI N);have h4:fU V.1 hi 0=some V.1[0]:=by simp only[fU,zK N]
  have h5:Q1 lo V.1 1=some V.1[0]:=by simp only[Q1,zK N]
  rw[h5]at T;rw[h4]at wx;have c4:=zCI rx b4 wx.gen T.gen Y.1 e0 k0 (wE.kidOk rx) (wE.kidOk b4);obtain⟨u,H9,e9,dr,w9⟩:=zFM (dy (m9+1)) n hn b0.prs.ok (sep:=V.1[0]) j5.1.node j7.1.node f1 i2;rw[c4]at e9 w9;simp only[if_true]at e9 w9;have c7:=XB Y.1;have js:=K1 h x V.1[0] V.2[1] c7;have wj:WX h (Q1 lo V.1 0) (fU V.1 hi (0+1)) (ZH h x V.1[0] V.2[1]):=Gen.wx (zCJ wx.gen T.gen ⟨Y.1,Y.2.1,by
   by_cases l8:1<V.1.length
   .simp only[fU,zK (show 0+1<V.1.length by omega)];exact(Nd.rising_ix ltS V.1).1 wi.2.1 0 (by omega)
   .simp only[fU,List.getElem?_eq_none (show V.1.length<=0+1 by omega)];exact Y.2.2⟩) (by have:=T.sz;omega)
  obtain⟨a5,b9,u',H',W,c1,y,c,H0,O,e5,a7,h6,hu,r5,w5,c5,z5,k5,l1,l2,pm,more⟩:=k7 0 1 V.1[0] u _ _ (Sx++a0) r a3 H9 dr w9 (wE.join rx b4 V.1[0]) wj (zAv c7 (.inr T.full)) (fun hh l8=>by
   cases h with
   | zero=>omega
   | succ h=>
    have:(d8 kd V.1[0] root).keys=kd.keys++([V.1[0]]++root.keys):=by simp only[d8,rx.1,zM,qE]
    rw[this]at l8;simp at l8) (by omega) (b7 ra) (b7 h0)
  refine⟨u',H',W,c1,g',M++[Q],y,c,H0,O,[Q],r++(a0++a3), ?_,a7,h6,hu,r5,w5, ?_,z5,k5,l1,l2,rfl, ?_, ?_,more,by simp⟩
  .have h7:mn2 (.int .i64 (0:Nat)) (.int .i64 (1:Nat))=some (.int .i64 (0:Nat)):=rfl;have h8:mx2 (.int .i64 (0:Nat)) (.int .i64 (1:Nat))=some (.int .i64 (1:Nat)):=rfl;have d9: ¬((1:Nat):Int)< ((0:Nat):Int):=by omega
   have q5:((1:Nat):Int)+((1:Nat):Int)=((0+1+1:Nat):Int):=by omega
   obtain⟨qk,ik,c8⟩:=k6.at (i:=0) (by rw[n2];exact N);have h9:q.keys[0]'(by rw[n2];exact N)=V.1[0]:=by simp[n2]
   rw[h9]at c8;simp(config:= { maxSteps:=2000000}) (disch:=omega) only[f129,eZ,b1,b2,b3,bF d3 b8,e4,c9,zD0,jP a6.gC,(b6 H4 d4).1,i4,g4,b5,e6,jR,nth,j0,k4,(b6 H7 d6).1,i7,g6,e8,h7,h8,d9,q5,bF i1 f8,(b6 H8 f9).2,ik,c8,bF g0 b8,e9,b9,zAI,e5]
  .have e1:V.2.drop (0+1)=V.2[1]::V.2.drop 2:=qN f4;rw[c5,zDb,e1];simp only[List.take_zero,List.flatMap_nil,yA,qM,qH,show 0+1+1=2 from rfl]
  .rw[List.perm_iff_count]at pm⊢;intro a;have:=pm a;simp only[List.count_append,List.count_cons]at this⊢;omega
  .rw[List.perm_iff_count];intro a;simp only[List.count_append,List.count_cons,List.count_nil];omega
end Go.Eng.Sh
end
section
namespace Go.Bt
open Go.Nd (Str Kvs lookP putP delP leafOf mayK)
open Go.Eng (ltS)
inductive Ed
 | put (k v:Str)
 | del (k:Str)
def Ed.key:Ed->Str
 | .put k _=>k
 | .del k=>k
def Ed.run:Ed->Kvs->Option Kvs
 | .put k v,l=>some (putP k v l)
 | .del k,l=>if(lookP k l).isSome then some (delP k l)else none
def Ed.ok:Ed->Prop
 | .put k v=>mayK k=true/\v.length<=200
 | .del k=>mayK k=true
theorem Ed.run_mid (ed:Ed){A C B:Kvs}(a: ∀p∈A,ltS p.1 ed.key=true)(f: ∀p∈B,ltS ed.key p.1=true):ed.run (A++C++B)=(ed.run C).map fun c=>A++c++B:=by
 cases ed with
 | put k v=>simp only[Ed.run,qA,zFm (k:=k) a f]
 | del k=>
  simp only[Ed.run,zIs (k:=k) a f,zGL (k:=k) a f];split<;>rfl
theorem Ed.leaf {ed:Ed}{lo hi:Bd}{l':Kvs}(a:Lf lo hi L)(hl:zEj lo ed.key)(h:hiB hi ed.key)(f:ed.ok)(hr:ed.run L=some l'):Lf lo hi l'/\wQ l'<=wQ L+242:=by
 cases ed with
 | put k v=>
  simp only[Ed.run,zC]at hr;subst hr;exact zIt a hl h f.1 f.2
 | del k=>
  simp only[Ed.run]at hr;split at hr
  .simp only[zC]at hr;subst hr;have:=zIu k a;exact⟨this.1,by omega⟩
  .cases hr
end Go.Bt
namespace Go.Eng.Sh
open Go.Nd (Ptr sumL leafOf Kvs)
open Go.Bt
variable {X:Nat->Prop}
def edF (ed:Ed)(K V:Nat):AV:=match ed with
 | .put _ _=> .func 88 [] [.ptr K 0, .ptr V 0]
 | .del _=> .func 83 [] [.ptr K 0]
def edB (H:AH)(ed:Ed)(K V:Nat):Prop:=match ed with
 | .put k v=>Box H K (S k)/\Box H V (S v)
 | .del k=>Box H K (S k)
theorem edB.prs {ed:Ed}(H:edB h ed k v)(a:h.ok)(s:Prs h F):edB F ed k v:=by
 cases ed with
 | put H' K=>exact⟨H.1.mono a s (fun x=>x),H.2.mono a s (fun x=>x)⟩
 | del H'=>exact Box.mono H a s (fun x=>x)
def edL (ed:Ed)(l:Kvs):Nd.Node×Nat:=match ed.run l with
 | some l'=>(leafOf l',0)
 | none=>(nd0,5)
theorem zIM (m:Nat)(hm:200000000<=m)(C:h.ok){ed:Ed}{lo hi:Bd}(Q:kJ h p (leafOf L))(o:Lf lo hi L)(hz:wQ L<=10000)(ho:ed.ok)(hb:edB h ed k v):
  ∃u H',(match ed with | .put _ _=>f88 (dy m) m [p, .ptr k 0, .ptr v 0] h | .del _=>f83 (dy m) m [p, .ptr k 0] h)=some (.tuple [u, .int .i64 ((edL ed L).2:Nat)],H')/\Prs h H'/\vQ h.next H' u (edL ed L).1:=by
 have U:Nd.shaped ltS (leafOf L)=true:=Nd.leaf_shaped o.1 fun V hp=>(o.2 V hp).2.2
 obtain⟨lv,rfl,O,a2⟩:=Q.cells;obtain⟨H1,A3,b1,q,S,m1,n1⟩:=box C (.cells lv 119 1 false);obtain⟨H2,A4,b2,F,g2,m2,n2⟩:=box q.ok (.cells [.bool false, .nS, .nS, .nS] 119 1 false);have f:=q.trans F;have W:small (leafOf L):=xQ hz;have N1:=q.next;have N2:=F.next
 have Y: ∀ {u:AV} {T:Nd.Node} {s:AH},Prs H2 s->vQ H2.next s u T-> ∃a,stN 4 (.ptr A4 0) u s=some (jT,a)/\Prs h a/\vQ h.next a u T/\ldN 4 (.ptr A4 0) a=some u:=fun {u T s} j J=>by
  obtain⟨lu,rfl,Z,a0⟩:=J.1.cells;obtain⟨a,t,g4,s4,n4⟩:=kD j.ok (zOs j f.ok g2) (l':=lu) Z a0;refine⟨a,t,(f.trans j).fresh s4 (fun B l=>by omega),⟨J.1.stp s4 (fun B l e=> ?_),fun B l=>by have:=J.2 B l;omega⟩,bF g4 Z⟩;have:=J.2 B l;omega
 cases ed with
 | put K x=>
  obtain⟨u,s,i,j,G⟩:=zId (dy m) m hm f.ok (key:=K) (value:=x) (Q.prs f) W;have a1:zDP (leafOf L) K x=true:=by simp only[zDP,U,show(leafOf L).leaf=true from rfl,ho.1,ho.2,Bool.true_and,decide_true]
  rw[a1]at i G;simp only[if_true,Nd.put_leaf _ _ o.1]at i G;obtain⟨a,t,M,y,N⟩:=Y j G;refine⟨u,a, ?_,M,y⟩;simp(maxSteps:=999999)(disch:=omega) only[f88,eZ,b1,b2,bF (zOs F q.ok S) O,(hb.1.mono C f (fun x=>x)).ld,(hb.2.mono C f (fun x=>x)).ld,i,jR,nth,t,N,edL,Ed.run]
 | del K=>
  obtain⟨u,s,i,j,G⟩:=zIQ (dy m) m hm f.ok (key:=K) (Q.prs f) W;have H:zMz (leafOf L) K=if(Nd.lookP K L).isSome then 0 else 5:=by
   simp only[zMz,U,show(leafOf L).leaf=true from rfl,qO,if_true,Nd.here_look _ o.1]
  obtain⟨a,t,M,y,N⟩:=Y j G
  cases I:(Nd.lookP K L).isSome with
  | true=>
   rw[I]at H;simp only[if_true]at H;rw[H]at i;simp only[H,if_true,Nd.del_leaf _ o.1 ((Nd.here_look _ o.1).trans I)]at y;have z:edL (.del K) L=(leafOf (Nd.delP K L),0):=by simp only[edL,Ed.run,I,if_true]
   refine⟨u,a, ?_,M,by rw[z];exact y⟩;rw[z];simp(maxSteps:=999999)(disch:=omega) only[f83,eZ,b1,b2,bF (zOs F q.ok S) O,(Box.mono hb C f (fun x=>x)).ld,i,jR,nth,t,N]
  | false=>
   rw[I]at H;simp only[zM,qE]at H;rw[H]at i;have h5: ¬(5:Nat)=0:=by decide
   simp only[H,h5,qE]at y;have z:edL (.del K) L=(nd0,5):=by simp only[edL,Ed.run,I,zM,qE]
   refine⟨u,a, ?_,M,by rw[z];exact y⟩;rw[z];simp(maxSteps:=999999)(disch:=omega) only[f83,eZ,b1,b2,bF (zOs F q.ok S) O,(Box.mono hb C f (fun x=>x)).ld,i,jR,nth,t,N]
theorem zGE (m n:Nat)(hm:200000000<=m)(a:h.ok){ed:Ed}{lo hi:Bd}(f:kJ h p (leafOf L))(H:Lf lo hi L)(i:wQ L<=10000)(j:ed.ok)(hb:edB h ed k v):
  ∃u H',callV [(76,f76 (dy (m+1)) n),(77,f77 (dy (m+1)) n),(79,f79 (dy (m+1)) n),(129,f129 (dy (m+1)) n),(130,f130 (dy (m+1)) n)] (dy (m+1)) (edF ed k v) [p] h=some (.tuple [u, .int .i64 ((edL ed L).2:Nat)],H')/\callV [(127,f127 (dy (m+1)) n),(126,f126 (dy (m+1)) n),(131,f131 (dy (m+1)) n)] (dy (m+1)) (edF ed k v) [p] h=some (.tuple [u, .int .i64 ((edL ed L).2:Nat)],H')/\Prs h H'/\vQ h.next H' u (edL ed L).1:=by
 obtain⟨u,H',e,V,w⟩:=zIM m hm a f H i j hb;refine⟨u,H', ?_, ?_,V,w⟩
 .cases ed with
  | put K x=>exact e
  | del K=>exact e
 .cases ed with
  | put K x=>exact e
  | del K=>exact e
def zE7 (Bd Bt a Bk f h:Nat):AV:= .func 128 [] [.ptr Bd 0, .ptr Bt 0, .ptr a 0, .ptr Bk 0, .ptr f 0, .ptr h 0]
structure Cl (H0 H:AH)(At Ac K V:Nat)(ed:Ed)(Bd Bt Be Bk Bf Bc d:Nat):Prop where
 bd:Box H Bd (.int .i64 (d:Nat))
 bt:Box H Bt (.ptr At 0)
 be:Box H Be (edF ed K V)
 bk:Box H Bk (S ed.key)
 bf:Box H Bf (zE7 Bd Bt Be Bk Bf Bc)
 bc:Box H Bc (.ptr Ac 0)
 eb:edB H0 ed K V
 fr:H0.next<=Bd
 n1:Bt≠Bd
 n2:Be≠Bd
 n3:Bk≠Bd
 n4:Bf≠Bd
 n5:Bc≠Bd
theorem _root_.Go.Eng.Box.nchg (H0:Box F J I)(a:Ch X h F k v l H e p i B G): ¬chg v l p J:=fun j=>by
 obtain⟨q,H0⟩:=H0;rcases j with rfl | rfl | j
 .rw[a.gC]at H0;simp at H0
 .rw[a.gF]at H0;cases H0
 .rw[a.gg.get j]at H0;simp at H0
theorem Cl.keep {H':AH}{ed:Ed}{q t:Nat}(H0:Cl h F k v B G ed J N Q R W m u)(a:Ch X h F k v l H e p i q t)(s:Stp (chg v l p) F H'):Cl h H' k v B G ed J N Q R W m u:=
 ⟨H0.bd.mono a.prs.ok s (H0.bd.nchg a),H0.bt.mono a.prs.ok s (H0.bt.nchg a),H0.be.mono a.prs.ok s (H0.be.nchg a),H0.bk.mono a.prs.ok s (H0.bk.nchg a),H0.bf.mono a.prs.ok s (H0.bf.nchg a),H0.bc.mono a.prs.ok s (H0.bc.nchg a),H0.eb,H0.fr,H0.n1,H0.n2,H0.n3,H0.n4,H0.n5⟩
theorem Cl.prs {H':AH}{ed:Ed}(H0:Cl h F k v l B ed G J N Q R W m)(a:F.ok)(s:Prs F H'):Cl h H' k v l B ed G J N Q R W m:=
 ⟨H0.bd.mono a s (fun x=>x),H0.bt.mono a s (fun x=>x),H0.be.mono a s (fun x=>x),H0.bk.mono a s (fun x=>x),H0.bf.mono a s (fun x=>x),H0.bc.mono a s (fun x=>x),H0.eb,H0.fr,H0.n1,H0.n2,H0.n3,H0.n4,H0.n5⟩
theorem Cl.deeper {ed:Ed}{Bt q:Nat}(H0:Cl h F k v B G ed J N Q R W m u)(a:Ch X h F k v l H e p i Bt q):
  ∃H',stN 1 (.ptr J 0) (.int .i64 (u+1:Nat)) F=some (jT,H')/\Cl h H' k v B G ed J N Q R W m (u+1)/\Ch X h H' k v l H e p i Bt q/\Stp (fun j=>j=J) F H':=by
 obtain⟨H',Bd,b,s⟩:=H0.bd.st a.prs.ok (x:= .int .i64 (u+1:Nat)) rfl;have o:=H0.bd.nchg a;obtain⟨V,K⟩:=H0.bd;refine⟨H',Bd,⟨b,H0.bt.mono a.prs.ok s H0.n1,H0.be.mono a.prs.ok s H0.n2,H0.bk.mono a.prs.ok s H0.n3,H0.bf.mono a.prs.ok s H0.n4,H0.bc.mono a.prs.ok s H0.n5,H0.eb,H0.fr,H0.n1,H0.n2,H0.n3,H0.n4,H0.n5⟩, ?_,s⟩;exact a.other s (fun Bd=>o (.inl Bd.symm)) (fun Bd=>o (.inr (.inl Bd.symm))) (fun j Bk Bd=>o (.inr (.inr (Bd▸Bk)))) (fun kv z j Bk Bd=>by
  subst Bd;obtain⟨I,C⟩:=a.pf.mem kv z;exact C.nblk K (.inl ⟨_,_,_,_,rfl,fun _ _ Bd=>by cases Bd⟩) Bk) (fun j Bk=>by rw[Bk];exact H0.fr)
variable {E:Ev}
theorem J7 {ks:List Str}(hl:q.leaf=false)(f:q.keys=ks)(key:Str):Nd.whereN q key=vF ks key:=by
 simp only[Nd.whereN,vF,hl,f,Bool.not_false,Bool.true_and]
theorem cW: ∀ {n a:Nat} {p:Ptr},p∈pps a n-> ∃j,p=pp j/\a<j/\j<=a+n
 | 0,_,_,h=>by simp[pps]at h
 | n+1,a,p,h=>by
  rcases zO.1 h with rfl | h
  .exact⟨a+1,rfl,by omega,by omega⟩
  .obtain⟨j,e,f,i⟩:=cW h;exact⟨j,e,by omega,by omega⟩
theorem JP: ∀(n a:Nat),(pps a n).Nodup
 | 0,_=>by simp[pps]
 | n+1,a=>by
  rw[pps,List.nodup_cons];refine⟨fun h=> ?_,JP n (a+1)⟩;obtain⟨j,e,f,_⟩:=cW h;have:=Y3 e;omega
def zMm (E:Ev)(X:Nat->Prop)(H0 H H':AH)(y z F K V:Nat)(ed:Ed)(M N O Q T B6 d:Nat)(q:PN)(f:PN)(g o:AV)(gl:List Ptr)(J m:Nat)(h:Nat)(lo hi:Bd)(t:Bt.Tr h)(S:List Ptr)(p:Ptr)(u:AV)(c':Kvs):Prop:=
 ∃L s v a d' x C G R Fr,∃i:Bt.Tr h,Ch X H0 H' y z F L s o v J a/\Cl H0 H' y z K V ed M N O Q T B6 d'/\xO X H' o u x/\wE (Qf E q s) h x i C/\WX h lo hi i/\con h i=c'/\(0<h->WB h t<=WB h i+1)/\v=gl++G/\G.length<=2*(h+1)/\
  m+Fr.length=a/\a<=m+6*h/\d'<=d+h+1/\C.Perm (Fr++R)/\(p::S).Perm (G++R)/\Fr.Nodup/\(∀p∈Fr,∃j,p=pp j/\m<j/\j<=a)/\(∀p I,Qf E q f p=some I->Qf E q s p=some I)/\ ∀B,Blk o B->Blk g B\/H.next<=B
theorem zEw{ed:Ed}{Y f I e7:Nat}{a0 K:Nat}
  (s:Ch X h F k v l H e p i a0 K) (cl:Cl h F k v B G ed J N Q R W m u) (g7:F.h.get Y=some (.cells (jV C) e7 1 false)) (Z:F.h.get f=some (.cells [.bool false, .nS, .nS, .nS] 119 1 false)) (M:F.h.get I=some (.cells t 119 1 false))
  (hu:xO X F p (.agg t) q) (h8:h.next<=f) (a3:f≠v) (b4:Y≠v) (a4:I≠v) (hl:i.length+1<=K+1000) (hb:K<=900000000):
  ∃z H',Y7 D n [.ptr m 0, .ptr Y 0, .ptr f 0, .ptr I 0, .int .i64 (0:Nat)] F=some (.ret (.tuple [.agg t, .int .i64 (0:Nat)]),H')/\Ch X h H' k v l H e z (i++[C]) a0 K/\Cl h H' k v B G ed J N Q R W m u/\xO X H' z (.agg t) q/\
   Stp (fun j=>chg v l p j\/j=f) F H'/\ ∀j,Blk z j->Blk p j\/F.next<=j:=by
 obtain⟨S,a6⟩:t.length=4/\jS t=true:=by
  obtain⟨_,_,a,b⟩:=gJ hu.1;exact⟨a,b⟩
 obtain⟨z,g,e1,O,a2⟩:=zG1 D n s C hl hb;have np: ∀ {A:Nat} {y:List AV} {B6:Nat},F.h.get A=some (.cells y B6 1 false)->A≠v-> ¬chg v l p A:=fun {A y B6} U a7 hc=>by
  rcases hc with B6 | B6 | B6
  .exact a7 B6
  .rw[B6,s.gF]at U;cases U
  .rw[s.gg.get B6]at U;simp at U
 have lt: ∀ {A:Nat} {y:List AV} {B6:Nat},F.h.get A=some (.cells y B6 1 false)->A<F.next:=fun U=>s.prs.ok.lt U
 have H0:g.h.get f=some (.cells [.bool false, .nS, .nS, .nS] 119 1 false):=by rw[a2.1.keep _ (lt Z) (np Z a3)];exact Z
 have a5:g.h.get I=some (.cells t 119 1 false):=by rw[a2.1.keep _ (lt M) (np M a4)];exact M
 have a8:=s.next hu a2
 have d:=cl.keep s a2.1;obtain⟨V,e2,a9,L,n2⟩:=kD O.prs.ok H0 (l':=t) S a6;have b0:stN 4 (.ptr f 0) (.agg t) g=some (jT,V):=e2;have b1:=O.stb H0 L h8 a3;have nb: ∀ {A:Nat} {x:AV},Box g A x->(∀b,x≠ .bool b)->A≠f:=fun {A x} hb hx B6=>by
  obtain⟨_,hb⟩:=hb;rw[B6,H0]at hb;simp at hb
 have b2:Cl h V k v B G ed J N Q R W m u:=by
  have T: ∀ {A:Nat} {x:AV},Box g A x->Box V A x:=fun {A x} hb=>hb.mono O.prs.ok L (fun B6=>by
   obtain⟨_,hb⟩:=hb;rw[B6,H0]at hb;simp at hb)
  exact⟨T d.bd,T d.bt,T d.be,T d.bk,T d.bf,T d.bc,d.eb,d.fr,d.n1,d.n2,d.n3,d.n4,d.n5⟩
 refine⟨z,V, ?_,b1,b2,a8.stb H0 L,(a2.1.mono fun _ _ x=> .inl x).trans (L.mono fun _ _ x=> .inr x),a2.2⟩;have b3: ¬(((0:Nat):Int)≠((0:Nat):Int)):=by omega
 simp(maxSteps:=999999)(disch:=omega) only[Y7,eZ,b3,cl.bc.ld,jU g7,zKz,qA,e1,bF a5 S,b0,bF a9 S]
theorem zEx{B6 e:Nat}(x y:AV)(o:h.ok)(p:h.h.get k=some (.cells [.bool false, .nS, .nS, .nS] 119 1 false))(t:e≠0):
  ∃H',Y7 D n [.ptr B6 0,x, .ptr k 0,y, .int .i64 (e:Nat)] h=some (.ret (.tuple [.agg [.bool false, .nS, .nS, .nS], .int .i64 (e:Nat)]),H')/\Stp (fun B=>B=k) h H':=by
 obtain⟨f,q,i,s,u⟩:=kD o p (l':=[.bool false, .nS, .nS, .nS]) rfl rfl;have j:stN 4 (.ptr k 0) (.agg [.bool false, .nS, .nS, .nS]) h=some (jT,f):=q;refine⟨f, ?_,s⟩;have m:(e:Int)≠((0:Nat):Int):=by omega
 simp(maxSteps:=999999)(disch:=omega) only[Y7,eZ,m,ne_eq,jH,aK,j,bF i rfl]
theorem zJ2 (M n a f h i j B6:Nat)(x:AV)(H:AH):callV [(76,f76 (dy (M+1)) n),(77,f77 (dy (M+1)) n),(79,f79 (dy (M+1)) n),(129,f129 (dy (M+1)) n),(130,f130 (dy (M+1)) n)] (dy (M+1)) (zE7 a f h i j B6) [x] H=f128 (dy M) M [x, .ptr a 0, .ptr f 0, .ptr h 0, .ptr i 0, .ptr j 0, .ptr B6 0] H:=rfl
noncomputable def zLW (D:Dyn)(n:Nat)(U x4 V x6 f h a:AV)(H:AH):Rs:=
 bV (fAd 0 a) fun s=>
 bV (ld1 s H) fun t=>
 jn (cnd t (bV (ld1 U H) fun u=>
 bV (ldN 4 a H) fun v=>
 bR (callV [(76,f76 D n),(77,f77 D n),(79,f79 D n),(129,f129 D n),(130,f130 D n)] D u [v] H) fun i H=>
 bV (jR i 0) fun x=>
 bV (jR i 1) fun y=>
 bR (stN 4 a x H) fun _ H=>
 some (.norm [x6,f,h,a,y],H))
 (bV (ldN 4 a H) fun z=>
 bV (ld1 x4 H) fun C=>
 bR (f79 D n [z,C] H) fun j H=>
 bA (bxV 119 (.agg [(.bool false), .nS, .nS, .nS])) H fun m H=>
 bV (ld1 V H) fun F=>
 bV (fAd 3 a) fun G=>
 bV (ld1 G H) fun I=>
 bV (cN 3 I j) fun J=>
 bV (ldN 3 J H) fun K=>
 bR (callV [(76,f76 D n),(77,f77 D n),(79,f79 D n),(129,f129 D n),(130,f130 D n)] D F [K] H) fun o H=>
 bV (jR o 0) fun L=>
 bV (jR o 1) fun p=>
 bR (stN 4 m L H) fun _ H=>
 bV (wO .eql p (.int .i64 (.ofNat 0))) fun M=>
 jn (cnd M (bV (ld1 x6 H) fun N=>
 bV (ldN 4 a H) fun O=>
 bV (ldN 4 m H) fun Q=>
 bR (f129 D n [N,O,j,Q] H) fun q H=>
 bV (jR q 0) fun S=>
 bV (jR q 1) fun T=>
 bR (stN 4 a S H) fun _ H=>
 some (.norm [x6,f,h,a,T],H))
 (some (.norm [x6,f,h,a,p],H))) (XN D n))) (Y7 D n)
theorem zAO (G n:Nat)(hn:200000000<=n){H0 H:AH}{s I F M0 K V:Nat}{ed:Ed}{t Y J L M B6 d:Nat}{u:Ptr}{dk a9 dr:AV}{root:Ptr}{es:List (AV×AV)}{q fr:PN}{a1:List (AV×AV)}{g:AV}{gl:List Ptr}{S a0:Nat}{y:Nd.Node}(ti:TI E H0 s M0 dk a9 root es q S dr)(a8: ∀kv∈es,∀B,vU kv.2 B->B<H0.next)(b0: ∀kv∈es,∀B,vU kv.2 B-> ¬X B)
  (z:Ch X H0 H s I F a1 fr g gl S a0) (cl:Cl H0 H s I K V ed t Y J L M B6 d) (hs:Qf E q [] u=some y) (hd:d+1<=8192):
  ∃lv i j f a,f128 (dy (G+1)) n [.agg (jV u), .ptr t 0, .ptr Y 0, .ptr J 0, .ptr L 0, .ptr M 0, .ptr B6 0] H=dV (zLW (dy (G+1)) n (.ptr J 0) (.ptr L 0) (.ptr M 0) (.ptr B6 0) (.ptr i 0) (.ptr j 0) (.ptr f 0) a)/\
   Ch X H0 a s I F a1 fr g gl S a0/\Cl H0 a s I K V ed t Y J L M B6 (d+1)/\xO X a g (.agg lv) y/\(∃r,lv= .bool y.leaf::r/\lv.length=4/\jS lv=true)/\
   a.h.get i=some (.cells (jV u) 42 1 false)/\a.h.get j=some (.cells [.bool false, .nS, .nS, .nS] 119 1 false)/\a.h.get f=some (.cells lv 119 1 false)/\
   H.next<=i/\H.next<=j/\H.next<=f/\i≠j/\i≠f/\j≠f/\Stp (fun B=>B=t) H a:=by
 obtain⟨H1,i,b1,N,g1,m1,n1⟩:=box z.prs.ok (.cells (jV u) 42 1 false);obtain⟨H2,j,b2,Z,g2,m2,n2⟩:=box N.ok (.cells [.bool false, .nS, .nS, .nS] 119 1 false);have P2:=N.trans Z;have b3:=z.step P2;have a2:=cl.prs z.prs.ok P2;obtain⟨H3,e3,T,m,O⟩:=a2.deeper b3;have a3:=ti.prs m.prs;have a7:=zFE (dy (G+1)) n a3;have N1:=N.next;have N2:=Z.next;have N3:=O.next
 have c7:t<H.next:=cl.bd.lt z.prs.ok
 have a4:H3.h.get i=some (.cells (jV u) 42 1 false):=by rw[O.keep _ (by omega) (by omega)];exact zOs Z N.ok g1
 have b4:H3.h.get j=some (.cells [.bool false, .nS, .nS, .nS] 119 1 false):=by rw[O.keep _ (by omega) (by omega)];exact g2
 obtain⟨v,H4,e4,p4,U,C⟩:=VU G n hn a3 hs;obtain⟨lv,rfl,b6,b7⟩:=U.cells;obtain⟨H5,f,b5,Q,g5,m5,n5⟩:=box p4.ok (.cells [.bool false, .nS, .nS, .nS] 119 1 false);obtain⟨a,e6,g6,s6,n6⟩:=kD Q.ok g5 (l':=lv) b6 b7;have b8:stN 4 (.ptr f 0) (.agg lv) H5=some (jT,a):=e6;have N4:=p4.next;have N5:=Q.next
 have p:Prs H3 a:=(p4.trans Q).fresh s6 (fun B o=>by omega);have a5:=m.step p;have W:kJ a (.agg lv) y:=(U.prs Q).stp s6 (fun B o e=>by
  subst e;have:=U.lt o;omega)
 have b9:xO X a g (.agg lv) y:=by
  rcases C with⟨kk,C⟩ | a6
  .exact W.hand a5 (fun B o=>a8 _ C B o) (b0 _ C)
  .refine⟨W,fun B o=>⟨fun hg=> ?_,fun hx=> ?_⟩⟩
   .have h1:=a6 B o;have h2:=zOx m.gg.row hg;omega
   .have h1:=a6 B o;have h2:=z.xo B hx;have h3:=m.prs.next
    omega
 obtain⟨r,c0,c1,c2⟩:=gJ W;refine⟨lv,i,j,f,a, ?_,a5,T.prs m.prs.ok p,b9,⟨r,c0,c1,c2⟩,zOs p m.prs.ok a4,zOs p m.prs.ok b4,g6,by omega,by omega,by omega,by omega,by omega,by omega,((P2.mono fun _ _ x=>x.elim).trans O).trans (p.mono fun _ _ x=>x.elim)⟩;have c3:(d:Int)+((1:Nat):Int)=((d+1:Nat):Int):=by omega
 have c4: ¬((8192+q.length:Nat):Int)< ((d+1:Nat):Int):=by omega
 have c5:aveq (.int .i64 (d+1:Nat)) (.int .i64 (d+1:Nat))=true:=by
  have:keq .i64 .i64=true:=by rw[xU];simp
  simp only[aveq,this,Bool.true_and,xV];simp
 have c6: ¬(((0:Nat):Int)≠((0:Nat):Int)):=by omega
 simp(maxSteps:=999999)(disch:=omega) only[f128,fD,zFB,bVs,bRs,show ∀(e:TypeId) (l:List AV),bxV e (.agg l)=some (.cells l e 1 false,fun A=> .ptr A 0)from fun _ _=>rfl,b1,b2,a2.bd.ld,YZ,wrap_i64,Int.ofNat_eq_natCast,c3,e3,T.bd.ld,T.bt.ld,a7,(fun K=>kY rfl c5: ∀K:Rs,chk (some (AV.int .i64 (d+1:Nat))) (.int .i64 (d+1:Nat)) K=K),zDp,c4,decide_false,zEa,zM,qE,jU a4,zKz,qA,e4,jR,nth,b5,b8,zDm,c6];rfl
theorem Cl.stb {H':AH}{ed:Ed}{d:Nat}(H0:Cl h F k v l B ed N Q R W m u d)(K:F.ok)(f:F.h.get G=some (.cells t J 1 false))(hl:t.length=4)(s:Stp (fun H=>H=G) F H'):Cl h H' k v l B ed N Q R W m u d:=by
 have a: ∀ {H:Nat} {x:AV},Box F H x->Box H' H x:=fun {H x} hb=>hb.mono K s (fun J=>by
  obtain⟨_,hb⟩:=hb;rw[J,f]at hb;simp only[zC,AObj.cells.injEq]at hb;rw[hb.1]at hl;simp at hl)
 exact⟨a H0.bd,a H0.bt,a H0.be,a H0.bk,a H0.bf,a H0.bc,H0.eb,H0.fr,H0.n1,H0.n2,H0.n3,H0.n4,H0.n5⟩
theorem zLV {ed:Ed}{B6:Nat}{root:Ptr}{c4:Nat}(ti:TI E h k G p I root H P c4 U)(d4: ∀kv∈H,∀B,vU kv.2 B->B<h.next)(d8: ∀kv∈H,∀B,vU kv.2 B-> ¬X B)(hq: ∀s z,jX s P=some z->s<=c4)(ho:ed.ok):
  ∀(H0 M n:Nat),200000000+H0<=M->200000000<=n-> ∀ {o3:AH} {d b1:Nat} {L:Ptr} {d9:List (AV×AV)} {f:PN} {g:AV} {gl:List Ptr} {z:Nd.Node} {t:Bt.Tr H0} {S:List Ptr} {lo hi:Bd},
   Ch X h o3 k v l d9 f g gl c4 b1->Cl h o3 k v J N ed Q R W m u B6 d->Qf E P [] L=some z->wE (Qf E P []) H0 z t S->Gen H0 lo hi t->wB H0 t<=500->(0<H0->z.keys≠[])->zEj lo ed.key->hiB hi ed.key->d+H0+1<=8192->b1+6*H0<=600000000->gl.length+2*(H0+1)<=b1+1000->
   ∃B3 e g' H',f128 (dy (M+1)) n [.agg (jV L), .ptr Q 0, .ptr R 0, .ptr W 0, .ptr m 0, .ptr u 0, .ptr B6 0] o3=some (.tuple [B3, .int .i64 ((e:Nat):Int)],H')/\Stp (fun B=>chg v l g B\/B=Q) o3 H'/\(∃Ac,B3= .agg Ac/\Ac.length=4/\jS Ac=true)/\
    match ed.run (con H0 t)with
    | none=>e=5
    | some c'=>e=0/\zMm E X h o3 H' k v l J N ed Q R W m u B6 d P f g g' gl c4 b1 H0 lo hi t S L B3 c':=by
 intro H0
 induction H0 with
 | zero=>
  intro M n hM hn o3 d b1 L d9 f g gl z t S lo hi ch cl hs rn wg hz _ e0 e2 hd hb o4;obtain⟨rfl,rfl⟩:=rn;obtain⟨lv,B1,A8,M0,H6,e6,At,a7,c6,⟨r,c7,a2,o5⟩,g7,g8,a3,m7,m8,o6,o7,l5,l6,c2⟩:=zAO M n hn ti d4 d8 ch cl hs (by omega);have N0:=ch.prs.next;have o8:=ch.ltC;have N6:=c2.next
  have o9:wQ (t:Kvs)<=10000:=by simp only[wB]at hz;omega
  obtain⟨B3,H7,e7,_,K,w7⟩:=zGE M n (by omega) At.prs.ok c6.1 wg o9 ho (a7.eb.prs ti.ok At.prs);obtain⟨lu,rfl,p1,h6⟩:=w7.1.cells;have p2:=At.step K;have h7:=a7.prs At.prs.ok K;have b7:=zOs K At.prs.ok a3;obtain⟨Y,e8,a5,s8,n8⟩:=kD K.ok b7 (l':=lu) (by omega) h6;have p3:stN 4 (.ptr M0 0) (.agg lu) H7=some (jT,Y):=by rw[a2]at e8;exact e8
  have b3:=h7.stb K.ok b7 a2 s8;have p4:xO X H7 g (.agg lu) (edL ed t).1:=vQ.hand At (zP _) w7;rw[c7]at b7;have a0:=p2.stb b7 s8 (by omega) (by omega);have h8:=p4.stb b7 s8;have N7:=K.next;have N8:=s8.next
  have b4:Y.h.get B1=some (.cells (jV L) 42 1 false):=by rw[s8.keep _ (by have:=At.prs.ok.lt g7;omega) (by omega)];exact zOs K At.prs.ok g7
  have a8:Y.h.get A8=some (.cells [.bool false, .nS, .nS, .nS] 119 1 false):=by rw[s8.keep _ (by have:=At.prs.ok.lt g8;omega) (by omega)];exact zOs K At.prs.ok g8
  have S8:Stp (fun B=>chg v l g B\/B=Q) o3 Y:=⟨s8.ok,by omega,fun B B2 y=>by
   rw[s8.keep B (by omega) (by omega),K.keep B (by omega) (fun x=>x),c2.keep B B2 (fun e=>y (.inr e))]⟩
  have p5: ¬(((0:Nat):Int)≠((0:Nat):Int)):=by omega
  have p6:(leafOf (t:Kvs)).leaf=true:=rfl;have run: ∀ {x:Option (AV×AH)} {code:Nat},(edL ed t).2=code->dV (Y7 (dy (M+1)) n [.ptr B6 0, .ptr B1 0, .ptr A8 0, .ptr M0 0, .int .i64 code] Y)=x->f128 (dy (M+1)) n [.agg (jV L), .ptr Q 0, .ptr R 0, .ptr W 0, .ptr m 0, .ptr u 0, .ptr B6 0] o3=x:=by
   intro x code hc O;rw[hc]at e7;rw[e6];simp(maxSteps:=999999)(disch:=omega) only[zLW,eZ,jP a3,c7,p6,a7.be.ld];simp(maxSteps:=999999)(disch:=omega) only[eZ,bF a3 a2,e7,jR,nth,p3];exact O
  cases hr:ed.run t with
  | none=>
   have c8:edL ed t=(nd0,5):=by simp only[edL,hr]
   obtain⟨H9,e9,F⟩:=zEx (dy (M+1)) n (B6:=B6) (.ptr B1 0) (.ptr M0 0) a0.prs.ok a8 (e:=5) (by decide);refine⟨.agg [.bool false, .nS, .nS, .nS],5,g,H9,run (by rw[c8]) (by rw[e9];rfl),⟨F.ok,by have:=F.next;omega,fun B B2 y=>by rw[F.keep B (by omega) (by omega)];exact S8.keep B B2 y⟩,⟨_,rfl,rfl,rfl⟩, ?_⟩
   simp only[con,hr]
  | some l'=>
   have c8:edL ed t=(leafOf l',0):=by simp only[edL,hr]
   rw[c8]at h8;obtain⟨g',H9,e9,e3,e4,p9,F,b9⟩:=zEw (dy (M+1)) n a0 b3 b4 a8 a5 h8 (by omega) (by omega) (by omega) (by omega) (by omega) (by omega);obtain⟨w1,w2⟩:=Ed.leaf wg e0 e2 ho hr;refine⟨.agg lu,0,g',H9,run (by rw[c8]) (by rw[e9];rfl),⟨F.ok,by have:=F.next;omega,fun B B2 y=> ?_⟩,⟨_,rfl,p1,h6⟩, ?_⟩
   .rw[F.keep B (by omega) (fun O=>by
     rcases O with O | O
     .exact y (.inl O)
     .omega)]
    exact S8.keep B B2 y
   .simp only[con,hr];refine⟨trivial,_,_,_,_,_,_,[],[L],[],[],l',e3,e4,p9,⟨rfl,rfl⟩,⟨w1,by simp only[wB]at hz;omega⟩,rfl,fun hh=>absurd hh (by omega),rfl,by simp,by simp,by omega,by omega,by simp,by simp,by simp,by simp,fun _ _ hp=>hp,fun B B2=> ?_⟩;rcases b9 B B2 with e | e
    .exact .inl e
    .exact .inr (by omega)
 | succ H0 ih=>
  intro M n hM hn o3 d b1 L d9 f g gl z t S lo hi ch cl hs rn wg hz c3 e0 e2 hd hb o4;obtain⟨r1,r2,r3,r4⟩:=rn;obtain⟨w1,w2,w3⟩:=id wg;have v1:=w3.len;have k7:=r4.len;obtain⟨lv,B1,A8,M0,H6,e6,At,a7,c6,⟨r,c7,a2,o5⟩,g7,g8,a3,m7,m8,o6,o7,l5,l6,c2⟩:=zAO M n hn ti d4 d8 ch cl hs (by omega);have N0:=ch.prs.next;have o8:=ch.ltC;have N6:=c2.next
  have q0:wS t.1 t.2.length<=500:=hz;have q5:small z:=xQ (by
   have:Nd.size z=wB (H0+1) t:=wE.size (Q:=Qf E P []) (S:=S) ⟨r1,r2,r3,r4⟩;rw[this];simp only[wB];omega)
  have h9:Nd.whereN z ed.key=vF t.1 ed.key:=J7 r1 r2 _;have l7:vF t.1 ed.key<=t.1.length:=BA _ _;have i0:vF t.1 ed.key<t.2.length:=by omega
  obtain⟨sA,sB⟩:=zBs (key:=ed.key) (ks:=t.1) (ts:=t.2) wg;have i1:=VC (lo:=lo) w2 e0;have i2:=VD (hi:=hi) w2 e2;generalize v0:vF t.1 ed.key=i at h9 l7 i0 sA sB i1 i2;have c9:=zK i0;obtain⟨pk,q6,Sa,Si,Sb,k1,k2,k3,k4,k5,k6⟩:=r4.at c9;have q7:=k2;have wk:=KB.at w3 c9;have q8:0<H0->q6.keys≠[]:=fun hh=>by
   cases H0 with
   | zero=>omega
   | succ H0=>
    have:=ZA wk;rw[k3.2.1];intro e;rw[e]at this;simp at this
  obtain⟨H7,e7,K⟩:=VB (dy (M+1)) n hn At.prs.ok (key:=ed.key) c6.1.node q5;rw[h9]at e7;obtain⟨Y,e5,b8,p8,i3,v6,q9⟩:=box K.ok (.cells [.bool false, .nS, .nS, .nS] 119 1 false);have a9:=K.trans p8;have a0:=At.step a9;have b3:=a7.prs At.prs.ok a9;have h7:=a7.prs At.prs.ok K;have a1:=c6.prs a9;have b4:=zOs a9 At.prs.ok g7;have a8:=zOs a9 At.prs.ok g8;have a5:=zOs a9 At.prs.ok a3;obtain⟨ks,r0,ps,i4,j1,j2,j3⟩:=id a1.1;simp only[AV.agg.injEq]at i4;obtain⟨qk,ik,i5⟩:=bI.at (l:=z.kids) j3.row (i:=i) (by omega);have r5:z.kids[i]'(by omega)=pk:=by
   rw[zK (by omega)]at k1;exact y6 k1
  rw[r5]at i5;have N7:=K.next;have N8:=p8.next
  obtain⟨Z,rfl⟩: ∃Z,M=Z+1:=⟨M - 1,by omega⟩;obtain⟨u1,e1,g1,H9,e9,F,⟨l1,rfl,i6,r6⟩,b2⟩:=ih Z (Z+1) (by omega) (by omega) a0 b3 q7 k3 wk.gen wk.sz q8 i1 i2 (by omega) (by omega) (by omega);have b5: ∀ {A:Nat} {o:AObj},Y.h.get A=some o->A<Y.next:=fun B5=>a0.prs.ok.lt B5
  have np: ∀ {A:Nat} {Ac:List AV} {e:Nat},Y.h.get A=some (.cells Ac e 1 false)->Ac.length≠1->A≠v-> ¬(chg v l g A\/A=Q):=fun {A Ac e} B5 hl c3 hc=>by
   rcases hc with(e | e | e) | e
   .exact c3 e
   .rw[e,a0.gF]at B5;cases B5
   .rw[a0.gg.get e]at B5;simp at B5
   .obtain⟨_,hb⟩:=b3.bd;rw[e,hb]at B5;simp only[zC,AObj.cells.injEq]at B5;rw[<-B5.1]at hl;simp at hl
  have r7:lv.length≠1:=by omega
  have r8:H9.h.get B1=some (.cells (jV L) 42 1 false):=by rw[F.keep _ (b5 b4) (np b4 (by simp[jV]) (by omega))];exact b4
  have r9:H9.h.get A8=some (.cells [.bool false, .nS, .nS, .nS] 119 1 false):=by rw[F.keep _ (b5 a8) (np a8 (by simp) (by omega))];exact a8
  have l8:H9.h.get M0=some (.cells lv 119 1 false):=by rw[F.keep _ (b5 a5) (np a5 r7 (by omega))];exact a5
  have c0:H9.h.get e5=some (.cells [.bool false, .nS, .nS, .nS] 119 1 false):=by rw[F.keep _ q9 (np i3 (by simp) (by omega))];exact i3
  obtain⟨T,s0,k8,dk,v7⟩:=kD F.ok c0 (l':=l1) i6 r6;have l9:stN 4 (.ptr e5 0) (.agg l1) H9=some (jT,T):=s0;have N9:=F.next;have v8:=dk.next
  have t7:=b5 b4;have t8:=b5 a8;have t10:=b5 a5;have v9:At.prs.ok.lt g7=At.prs.ok.lt g7:=rfl;have u7:=At.prs.ok.lt g7;have u8:=At.prs.ok.lt g8;have w0:=At.prs.ok.lt a3;have g5:T.h.get B1=some (.cells (jV L) 42 1 false):=by rw[dk.keep _ (by omega) (by omega)];exact r8
  have d5:T.h.get A8=some (.cells [.bool false, .nS, .nS, .nS] 119 1 false):=by rw[dk.keep _ (by omega) (by omega)];exact r9
  have d2:T.h.get M0=some (.cells lv 119 1 false):=by rw[dk.keep _ (by omega) (by omega)];exact l8
  have i7:Stp (fun B=>chg v l g B\/B=Q) o3 T:=⟨dk.ok,by omega,fun B B2 y=>by
   rw[dk.keep B (by omega) (by omega),F.keep B (by omega) y,a9.keep B (by omega) (fun x=>x),c2.keep B B2 (fun e=>y (.inr e))]⟩
  have a6:=Ed.run_mid ed (A:=(t.2.take i).flatMap (con H0)) (C:=con H0 t.2[i]) (B:=(t.2.drop (i+1)).flatMap (con H0)) sA sB;have m0:con (H0+1) t=(t.2.take i).flatMap (con H0)++con H0 t.2[i]++(t.2.drop (i+1)).flatMap (con H0):=by
   have:t.2=t.2.take i++[t.2[i]]++t.2.drop (i+1):=zCq c9;simp only[con]
   conv=>lhs;rw[this]
   simp only[jJ,qM,List.flatMap_nil,yC]
  rw[<-m0]at a6;have p5: ¬(((0:Nat):Int)≠((0:Nat):Int)):=by omega
  have i8:lv=[.bool z.leaf,ks,r0,ps]:=i4;have head: ∀ {x:Option (AV×AH)},dV (jn (bV (wO .eql (.int .i64 e1) (.int .i64 (.ofNat 0))) fun s1=>jn (cnd s1 (bV (ld1 (.ptr B6 0) T) fun s2=>bV (ldN 4 (.ptr M0 0) T) fun s3=>bV (ldN 4 (.ptr e5 0) T) fun s4=>bR (f129 (dy (Z+1+1)) n [s2,s3, .int .i64 (i:Nat),s4] T) fun i9 o3=>
    bV (jR i9 0) fun s5=>bV (jR i9 1) fun s6=>bR (stN 4 (.ptr M0 0) s5 o3) fun _ o3=>some (.norm [.ptr B6 0, .ptr B1 0, .ptr A8 0, .ptr M0 0,s6],o3)) (some (.norm [.ptr B6 0, .ptr B1 0, .ptr A8 0, .ptr M0 0, .int .i64 e1],T))) (XN (dy (Z+1+1)) n)) (Y7 (dy (Z+1+1)) n))=x->
    f128 (dy (Z+1+1)) n [.agg (jV L), .ptr Q 0, .ptr R 0, .ptr W 0, .ptr m 0, .ptr u 0, .ptr B6 0] o3=x:=by
   intro x O;rw[e6,<-O];have h0:ld1 (.ptr M0 0) H6=some (.bool false):=by rw[jP a3,i8,r1];rfl
   have h3:ld1 (.ptr M0 3) Y=some ps:=by rw[jP a5,i8];rfl
   simp(maxSteps:=999999)(disch:=omega) only[zLW,eZ,h0,bF a3 a2,a7.bk.ld,e7,b8,b3.bf.ld,h3,ik,i5,zJ2,e9,jR,nth,l9]
  cases hr:ed.run (con H0 t.2[i])with
  | none=>
   rw[hr]at b2 a6;simp only[Option.map_none]at a6;have b2:e1=5:=b2;subst b2;obtain⟨b6,f3,f4⟩:=zEx (dy (Z+1+1)) n (B6:=B6) (.ptr B1 0) (.ptr M0 0) dk.ok d5 (e:=5) (by decide);have s7: ¬((5:Nat):Int)=((0:Nat):Int):=by omega
   refine⟨.agg [.bool false, .nS, .nS, .nS],5,g,b6,head ?_,⟨f4.ok,by have:=f4.next;omega,fun B B2 y=>by rw[f4.keep B (by omega) (by omega)];exact i7.keep B B2 y⟩,⟨_,rfl,rfl,rfl⟩, ?_⟩
   .simp(maxSteps:=999999)(disch:=omega) only[eZ,s7,XN,f3]
   .rw[a6]
  | some c1=>
   rw[hr]at b2 a6;simp only[qA]at a6;obtain⟨rfl,v2,f1,j0,f9,d1,t0,S1,G1,R1,t3,t1,e3,e4,t4,j4,t5,m1,t6,g6,w4,w5,v3,w6,j5,g9,m2,j6,k9,f5⟩:=b2;have c5:=e3.stb c0 dk (by omega) (by omega);have h1:=e4.stb F.ok c0 rfl dk;have m3:=t4.stb c0 dk;have t9:xO X H9 g1 (.agg lv) z:=⟨a1.1.stp F (fun B B2 hc=>by
    rcases hc with(e | e | e) | e
    .subst e;exact a1.1.nblk a0.gC (.inl ⟨_,_,_,_,rfl,fun _ _ e=>by cases e⟩) B2
    .subst e;exact a1.1.nblk a0.gF (.inr (.inl ⟨_,_,rfl⟩)) B2
    .exact(a1.2 B B2).1 e
    .obtain⟨_,hb⟩:=b3.bd;subst e;exact a1.1.nblk hb (.inl ⟨_,_,_,_,rfl,fun _ _ e=>by cases e⟩) B2),fun B B2=>⟨fun B5=>by
    rcases f5 B B5 with e | e
    .exact(a1.2 B B2).1 e
    .have:=a1.1.lt B2;omega,(a1.2 B B2).2⟩⟩
   have m4:=t9.stb c0 dk;have m5:0<H0->t0.keys≠[]:=fun hh=>by
    have f6:=t6 hh
    cases H0 with
    | zero=>omega
    | succ H0=>
     have:=ZA wk;simp only[WB]at f6;rw[j4.2.1];intro e;rw[e]at f6;simp at f6;omega
   have v4:j0.length=gl.length+G1.length:=by rw[g6,zV]
   obtain⟨u2,b6,m6,f2,g2,j7,g0,u0,t2,S2,G2,R2,f3,d6,a4,h2,m9,u3,l0,w8,k11,w9,x0,h4,j8,h5,l3,x3⟩:=zDR (Z+1) n hn ti d4 d8 hq c5 m4 m3 r1 r2 r3 k7 wg (by rw[<-r2];exact c3 (by omega)) q0 c9 k4 k5 j4 t5 m5 (by omega) (by omega);obtain⟨l2,rfl,u4,j9⟩:=h2.1.cells;have d7: ∀ {A:Nat} {Ac:List AV} {e:Nat},T.h.get A=some (.cells Ac e 1 false)->A≠v-> ¬chg v l g1 A:=fun {A Ac e} B5 c3 hc=>by
    rcases hc with e | e | e
    .exact c3 e
    .rw[e,c5.gF]at B5;cases B5
    .rw[c5.gg.get e]at B5;simp at B5
   have x4:=a4.1.next
   have n0:b6.h.get B1=some (.cells (jV L) 42 1 false):=by rw[a4.1.keep _ (by omega) (d7 g5 (by omega))];exact g5
   have n1:b6.h.get A8=some (.cells [.bool false, .nS, .nS, .nS] 119 1 false):=by rw[a4.1.keep _ (by omega) (d7 d5 (by omega))];exact d5
   have d3:b6.h.get M0=some (.cells lv 119 1 false):=by rw[a4.1.keep _ (by omega) (d7 d2 (by omega))];exact d2
   obtain⟨f7,k0,l4,b0,x5⟩:=kD d6.prs.ok d3 (l':=l2) (by omega) j9;have n2:stN 4 (.ptr M0 0) (.agg l2) b6=some (jT,f7):=by rw[a2]at k0;exact k0
   have n3:=h1.keep c5 a4.1;have n4:=n3.stb d6.prs.ok d3 a2 b0;have d0:=d3;rw[c7]at d0;have n5:=d6.stb d0 b0 (by omega) (by omega);have n6:=h2.stb d0 b0;have x6:=b0.next
   have n7:f7.h.get B1=some (.cells (jV L) 42 1 false):=by rw[b0.keep _ (by omega) (by omega)];exact n0
   have n9:f7.h.get A8=some (.cells [.bool false, .nS, .nS, .nS] 119 1 false):=by rw[b0.keep _ (by omega) (by omega)];exact n1
   have v5:j7.length=j0.length+G2.length:=by rw[h4,zV]
   obtain⟨g3,u5,u6,o0,o1,o2,f8,u9⟩:=zEw (dy (Z+1+1)) n n5 n4 n7 n9 l4 n6 (by omega) (by omega) (by omega) (by omega) (by omega) (by omega);have g4: ∀B,Blk g2 B->Blk g B\/Y.next<=B:=fun B B2=>by
    rcases a4.2 B B2 with e | e
    .exact f5 B e
    .exact .inr (by omega)
   refine⟨.agg l2,0,g3,u5,head ?_,⟨f8.ok,by have:=f8.next;omega,fun B B2 y=> ?_⟩,⟨_,rfl,u4,j9⟩, ?_⟩
   .simp(maxSteps:=999999)(disch:=omega) only[eZ,h1.bc.ld,bF d2 a2,bF k8 i6,f3,jR,nth,n2,XN,u6]
   .rw[f8.keep B (by omega) (fun O=>by
     rcases O with(e | e | e) | e
     .exact y (.inl (.inl e))
     .exact y (.inl (.inr (.inl e)))
     .rcases g4 B e with e | e
      .exact y (.inl (.inr (.inr e)))
      .omega
     .omega),b0.keep B (by omega) (by omega),a4.1.keep B (by omega) (fun O=>by
     rcases O with e | e | e
     .exact y (.inl (.inl e))
     .exact y (.inl (.inr (.inl e)))
     .rcases f5 B e with e | e
      .exact y (.inl (.inr (.inr e)))
      .omega)]
    exact i7.keep B B2 y
   .rw[a6];refine⟨rfl,m6,f2,j7++[L],g0,d1,u0,S2,G1++G2++[L],R2++R1,pps f9 (g0 - f9)++t3,t2,o0,o1,o2,m9,⟨u3,by omega⟩,by rw[l0,m1],fun _=>by simp only[WB];exact k11,by rw[h4,g6];simp,by simp;omega,by rw[zV,fZ];omega,by omega,by omega, ?_, ?_, ?_, ?_,fun B4 z hp=>l3 B4 z (k9 B4 z hp),fun B B2=> ?_⟩
    .rw[List.perm_iff_count]at j5 j8⊢;intro a;have x1:=j5 a;have x2:=j8 a;simp only[List.count_append]at x1 x2⊢;omega
    .rw[k6];rw[List.perm_iff_count]at g9 h5⊢;intro a;have x1:=g9 a;have x2:=h5 a;simp only[List.count_append,List.count_cons,List.count_nil]at x1 x2⊢;omega
    .rw[List.nodup_append];refine⟨JP _ _,m2,fun a ha b hb e=> ?_⟩;obtain⟨j,rfl,q1,q2⟩:=cW ha;obtain⟨j',e',q3,q4⟩:=j6 b hb;rw[e']at e;have:=Y3 e;omega
    .intro B4 hp;rcases qB.1 hp with hp | hp
     .obtain⟨j,rfl,q1,q2⟩:=cW hp;exact⟨j,rfl,by omega,by omega⟩
     .obtain⟨j,rfl,q1,q2⟩:=j6 B4 hp;exact⟨j,rfl,by omega,by omega⟩
    .rcases u9 B B2 with e | e
     .rcases g4 B e with e | e
      .exact .inl e
      .exact .inr (by omega)
     .exact .inr (by omega)
end Go.Eng.Sh
end
section
namespace Go.Eng
theorem zCN {t:T AObj} : ∀(n A:Nat),(∀C,A<=C->t.get C=none)->zE1 t A n=true
 | 0,_,_=>rfl
 | n+1,A,h=>by
  simp only[zE1,h A (zP _),kG];exact zCN n _ fun C a=>h C (by simp only[Nat.succ_eq_add_one]at a;omega)
theorem zCg: ∀ {l e:List (AV×AV)},(∀x∈l,v6 x.1 e=none)->l.Pairwise (fun a b=>aveq b.1 a.1=false)->WK e l=e++l
 | [],e,_,_=>by simp[WK]
 | x::l,e,h,hp=>by
  rw[yM]at hp;have f:ups e x=e++[x]:=by
   obtain⟨k,v⟩:=x;simp only[ups,Sh.setA_none (h (k,v) (zJ ..))]
  have j: ∀ {k:AV} {a b:List (AV×AV)},v6 k a=none->v6 k b=none->v6 k (a++b)=none:=by
   intro k a b
   induction a with
   | nil=>intro _ h;exact h
   | cons c a ih=>
    intro f m;simp only[qF,v6]at f⊢
    cases e:aveq k c.1 with
    | true=>rw[e]at f;cases f
    | false=>rw[e]at f;simp only[yH]at f⊢;exact ih f m
  simp only[WK,f];rw[zCg (l:=l) (fun y i=>j (h y (zE _ i)) (by
   simp only[v6,hp.1 y i,yH])) hp.2]
  simp
end Go.Eng
namespace Go.Eng.Sh
open Go.Nd (Ptr sumL)
open Go.Bt
def bY:PN->List Ptr->PN
 | q,[]=>q
 | q,p::gl=>bY (if p.at_=1 then zAS p.sum.toNat q else q) gl
theorem QR: ∀(gl:List Ptr) (q:PN) (p:Ptr),bY q (gl++[p])=if p.at_=1 then zAS p.sum.toNat (bY q gl)else bY q gl
 | [],_,_=>rfl
 | _::gl,q,p=>by simp only[qF,bY,QR gl]
theorem zD8 (s:Nat): ∀q:PN,(zAS s q).length<=q.length
 | []=>zP _
 | (t,n)::q=>by
  simp only[zAS];split
  .simp
  .have:=zD8 s q;simp;omega
theorem zD7 (s:Nat): ∀ {q:PN} {x:Nat×Nd.Node},x∈zAS s q->x∈q
 | [],_,h=>h
 | (t,n)::q,x,h=>by
  simp only[zAS]at h;split at h
  .exact zE _ h
  .rcases zO.1 h with h | h
   .exact h▸zJ ..
   .exact zE _ (zD7 s h)
theorem JY {s t:Nat}(h:s≠t): ∀q:PN,jX s (zAS t q)=jX s q
 | []=>rfl
 | (a,n)::q=>by
  simp only[zAS];split
  .rename_i e;simp only[jX];rw[if_neg (fun f=>h (f.symm.trans e))]
  .simp only[jX,JY h q]
theorem KL {s:Nat} : ∀ {q:PN},jX s q=none->zAS s q=q
 | [],_=>rfl
 | (a,n)::q,h=>by
  simp only[jX]at h;split at h
  .cases h
  .rename_i e;simp only[zAS,if_neg e,KL h]
theorem KK {H:AH}{s:Nat} : ∀ {es:List (AV×AV)} {q:PN},uB H es q->jX s q=none->zGM (.int .u64 (s:Nat)) es=none
 | [],[],_,_=>rfl
 | (k,v)::es,(t,nd)::q,h,hl=>by
  obtain⟨⟨rfl,_⟩,a⟩:=h;simp only[jX]at hl;split at hl
  .cases hl
  .rename_i e;have f: ¬s=t:=fun h=>e h.symm
   simp only[zGM,zJb,f,decide_false,yH,KK a hl]
 | [],_::_,h,_=>h.elim
 | _::_,[],h,_=>h.elim
theorem XV {s:Nat} : ∀ {gl:List Ptr} {q:PN},(∀p∈gl,p.at_=1->s≠p.sum.toNat)->jX s (bY q gl)=jX s q
 | [],_,_=>rfl
 | p::gl,q,h=>by
  rw[bY,XV fun p hp=>h p (zE _ hp)];by_cases e:p.at_=1
  .rw[if_pos e,JY (h p (zJ ..) e)]
  .rw[if_neg e]
theorem ZQ: ∀ {gl:List Ptr} {q:PN} {x:Nat×Nd.Node},x∈bY q gl->x∈q
 | [],_,_,h=>h
 | p::gl,_,_,h=>by
  have a:=ZQ (gl:=gl) h;split at a
  .exact zD7 _ a
  .exact a
theorem ZR: ∀(gl:List Ptr) (q:PN),(bY q gl).length<=q.length
 | [],_=>zP _
 | p::gl,q=>by
  refine qR (ZR gl _) ?_;split
  .exact zD8 _ q
  .exact zP _
theorem xY {s:Nat}{a:Nd.Node} : ∀ {q:PN},jX s q=some a->(s,a)∈q
 | [],h=>by cases h
 | (t,n)::q,h=>by
  simp only[jX]at h;split at h
  .rename_i e;subst e;simp only[zC]at h;subst h;exact zJ ..
  .exact zE _ (xY h)
theorem uB.keys {H:AH} : ∀ {es:List (AV×AV)} {q:PN},uB H es q-> ∀kv∈es,∃s,kv.1= .int .u64 ((s:Nat):Int)/\s∈q.map Prod.fst
 | [],[],_,_,h=>by simp at h
 | (k,v)::es,(t,nd)::q,hq,kv,a=>by
  rcases zO.1 a with rfl | a
  .exact⟨t,hq.1.1,by simp⟩
  .obtain⟨s,f,i⟩:=uB.keys hq.2 kv a;exact⟨s,f,zE _ i⟩
 | [],_::_,h,_,_=>h.elim
 | _::_,[],h,_,_=>h.elim
theorem uB.dist {H:AH} : ∀ {es:List (AV×AV)} {q:PN},uB H es q->(q.map Prod.fst).Nodup->es.Pairwise (fun a b=>aveq b.1 a.1=false)
 | [],[],_,_=>List.Pairwise.nil
 | (k,v)::es,(t,nd)::q,hq,hd=>by
  simp only[yE,List.nodup_cons]at hd;rw[yM];refine⟨fun kv f=> ?_,uB.dist hq.2 hd.2⟩;obtain⟨s,i,j⟩:=uB.keys hq.2 kv f;rw[i,hq.1.1,zJb,yP];intro e;subst e;exact hd.1 j
 | [],_::_,h,_=>h.elim
 | _::_,[],h,_=>h.elim
theorem uB.append {H:AH}{es':List (AV×AV)}{a:PN}(f:uB H es' a): ∀ {es:List (AV×AV)} {q:PN},uB H es q->uB H (es++es') (q++a)
 | [],[],_=>f
 | _::es,_::q,h=>⟨h.1,uB.append f h.2⟩
 | [],_::_,h=>h.elim
 | _::_,[],h=>h.elim
theorem uB.isAg {H:AH}{es:List (AV×AV)}{q:PN}(h:uB H es q):es.all (fun e=>xM [10] e.1&&Eng.isAg 4 e.2)=true:=by
 rw[y8];intro kv a;obtain⟨s,f,_⟩:=h.keys kv a;obtain⟨p,i⟩:=h.mem kv a;obtain⟨l,j,m,o⟩:=i.cells;rw[f,j,zNi,Bool.true_and];simp only[Eng.isAg,kE,m,o,yK,qO]
noncomputable def AH.putB (H:AH)(A:Nat)(o:AObj)(k:Nat):AH:=⟨(H.put A o).h,H.next+k⟩
theorem zIf (i:h.ok)(m:k<h.next)(o:AObj)(H:Nat):Stp (fun B=>B=k) h (AH.putB h k o H)/\(AH.putB h k o H).h.get k=some o:=by
 have a: ∀B,(AH.putB h k o H).h.get B=if B=k then some o else h.h.get B:=fun B=>zOl h k o B
 refine⟨⟨fun B f=> ?_, ?_,fun B _ j=> ?_⟩, ?_⟩
 .have f:h.next+H<=B:=f
  rw[a,if_neg (by omega)];exact i B (by omega)
 .show h.next<=h.next+H;omega
 .rw[a,if_neg j]
 .rw[a,if_pos rfl]
theorem zHO (j:h.ok)(m:h.h.get k=some (.map [10] H))(o:h.h.get v=some (.map [10] s))(i:k≠v)(hp:uB h H e):
  zKp [10] 1 (isAg 4) (.map k) (.map v) h=some (AH.putB h v (.map [10] (WK s H)) (1+1*H.length)):=by
 have hb:Nat.beq k v=false:=by rw[y7];intro F;exact i (Nat.eq_of_beq_eq_true F)
 simp only[zKp,m,o,show YI [10] [10]=true from rfl,hb,hp.isAg,Bool.not_false,qO,zU,kG,zCN _ _ j,wM,AH.putB,zOj,Nat.add_assoc]
variable {E:Ev}
def Ev.drop (E:Ev)(gl:List Ptr):Ev:=⟨E.nb,E.ws,E.dl++gl.filter fun p=>decide (p.at_≠1),E.x⟩
theorem zD4 (E:Ev)(gl:List Ptr):(E.drop gl).dl.length<=E.dl.length+gl.length:=by
 simp only[Ev.drop,zV];have:=List.length_filter_le (fun p:Ptr=>decide (p.at_≠1)) gl;omega
theorem TI.dks (S:TI E h k v p I C H e l U)(s:Stp w h F)(i: ∀B,w B->B=k\/B=v\/Blk U B\/h.next<=B): ∃a j m o t,p= .ptr a 0/\DkI F a E.nb E.ws j m o t:=by
 obtain⟨a,j,m,o,t,rfl,hd⟩:=S.dk;have H': ∀ {B:Nat} {ks:List Nat} {x:List (AV×AV)},ks≠[10]->h.h.get B=some (.map ks x)-> ¬w B:=fun {B ks x} z g f=>by
  rcases i B f with y | y | y | y
  .rw[y,S.gT]at g;cases g
  .rw[y,S.gM]at g;simp only[zC,AObj.map.injEq]at g;exact z g.1.symm
  .exact zOu S.dg g (fun _ _ y=>by cases y) y
  .have:=S.ok.lt g;omega
 refine⟨a,j,m,o,t,rfl,hd.stp S.ok s (fun f=> ?_) (H' (by decide) hd.gO) (H' (by decide) hd.gN) fun B M f=> ?_⟩
 .rcases i a f with y | y | y | y
  .have g:=hd.gD;rw[y,S.gT]at g;simp[xE]at g
  .have g:=hd.gD;rw[y,S.gM]at g;cases g
  .exact zOu S.dg hd.gD (fun _ _ y=>by simp at y) y
  .have:=S.ok.lt hd.gD;omega
 .have g:=hd.ow.get M;rcases i B f with y | y | y | y
  .rw[y,S.gT]at g;simp at g
  .rw[y,S.gM]at g;cases g
  .exact zOu S.dg g (fun _ _ y=>by simp at y) y
  .have:=S.ok.lt g;omega
theorem zNP {s:Nat}(f:h.ok)(a:h.h.get k=some (.map [10] H))(hp:uB h H e):
  ∃es' H',dlM [10] (.map k) (.int .u64 (s:Nat)) h=some (.tuple [],H')/\H'.h.get k=some (.map [10] es')/\uB H' es' (zAS s e)/\Stp (fun B=>B=k) h H'/\ ∀kv∈es',kv∈H:=by
 cases hl:jX s e with
 | none=>
  refine⟨H,h, ?_,a,by rw[KL hl];exact hp,zOp f,fun _ M=>M⟩;simp only[dlM,zNi,a,show YI [10] [10]=true from rfl,zU,KK hp hl]
 | some nd=>
  obtain⟨es',m,o,p⟩:=hp.del s nd hl;have i:Stp (fun B=>B=k) h (h.put k (.map [10] es')):=(zOp f).put (f.lt a) _ (.inr rfl);refine⟨es',h.put k (.map [10] es'), ?_,by rw[zOl,if_pos rfl],o.frame fun kv u v j=>j.stp i fun B t es=> ?_,i,p⟩
  .simp only[dlM,zNi,a,show YI [10] [10]=true from rfl,zU,m,wM]
  .subst es;exact j.nblk a (.inr (.inl ⟨_,_,rfl⟩)) t
theorem K9 {α:Type}(f:α->Bool)(l:List α)(a:α):(l++[a]).filter f=l.filter f++(if f a then[a]else[]):=by
 rw[jK];cases h:f a<;>simp[h]
theorem zGJ{root:Ptr}(t:TI E h k B p I C H e G U)(hq: ∀es N,jX es e=some N->es<=G)
  (y:Ch (XE E U) h F k v l s P g i G J) (g9: ∀d∈i,0<=d.sum) (hl:J<=900000000) (z:i.length<n) (j8:e.length<=G) (j9:E.dl.length+i.length<=900000000):
  ∃H' es' c8,f126 D n [.ptr v 0, .agg (jV root)] F=some (.tuple [],H')/\TI (E.drop i) H' k B p I root es' (bY e i++P) J c8/\Stp (fun M=>M=k\/M=B\/Blk U M) h H'/\ ∀M,Blk c8 M->Blk U M\/h.next<=M:=by
 have h0:=t.prs y.prs;have j6:=y.few;obtain⟨Ad,od,hd⟩:=t.hd;obtain⟨H1,A3,b1,p1,g1,m1,n1⟩:=box y.prs.ok (.cells (jV root) 42 1 false);have a0:=y.step p1;have a4:=h0.prs p1;have j7:k<h.next:=t.ok.lt t.gT
 have k0:B<h.next:=t.ok.lt t.gM
 have f6: ∀M,Blk U M->M<h.next:=fun M a=>t.dg.lt a
 have N0:=y.prs.next;have N1:=p1.next
 have cC:=y.dC;have cF:=y.dF;have lC:=y.ltC;have lF:=y.ltF;have a8:k≠B:=fun K=>by have:=t.gT;rw[K,t.gM]at this;cases this
 have nS: ∀M,h.next<=M-> ¬(M=B\/M=k\/Blk U M):=fun M a H0=>by
  rcases H0 with K | K | K
  .omega
  .omega
  .have:=f6 M K;omega
 have k1: ¬Blk U B:=zOu t.dg t.gM (fun _ _ K=>by cases K);have k2: ¬Blk U k:=zOu t.dg t.gT (fun _ _ K=>by simp at K);have c9: ∀kv∈H,∀M,vU kv.2 M->M<h.next:=fun kv V M a=>by
  obtain⟨d0,b6⟩:=t.pq.mem kv V;exact b6.lt a
 have lp:=fC (b:=KG D n) i.length (fun q us H'=>us=[.ptr v 0, .ptr A3 0, .ptr k 0,g, .int .i64 (i.length:Nat), .int .i64 (q:Nat)]/\Stp (fun M=>M=B\/M=k\/Blk U M) H1 H'/\ ∃a5 Y,H'.h.get B=some (.map [10] a5)/\uB H' a5 (bY e (i.take q))/\H'.h.get k=some (.cells (xE p I C B G Y) 140 1 false)/\
   wF 3 42 H' Y (E.drop (i.take q)).dl.length ((E.drop (i.take q)).dl.flatMap jV)/\(∀M,Blk Y M->Blk U M\/H1.next<=M)/\ ∀kv∈a5,kv∈H) (fun q us H' hi ⟨h6,st,a5,Y,hM,hp,gT,dg,db,hes⟩=>by
  subst h6;have h7:i[q]∈i:=yI hi;obtain⟨d,d4⟩: ∃d,d=i[q]:=⟨_,rfl⟩;have d5:=g9 _ h7;have og:Own 3 42 H' g i.length (i.flatMap jV):=a0.gg.mono st fun M a=>nS M (y.gN M a)
  obtain⟨pq,i1,i2⟩:=bI.at (l:=i) og.row hi;rw[<-d4]at i2 d5;have b3:i.take (q+1)=i.take q++[d]:=by rw[qQ hi,d4]
  obtain⟨u,A6,b2,p2,g2,m2,n2⟩:=box st.ok (.cells [.int .i64 (0:Nat), .int .i64 (0:Nat), .int .u64 (0:Nat)] 42 1 false);obtain⟨c,e3,g3,T,n3⟩:=kD p2.ok g2 (l':=jV d) rfl rfl;have d6:stN 3 (.ptr A6 0) (.agg (jV d)) u=some (jT,c):=e3;have N2:=st.next;have N3:=p2.next
  have O:Prs H' c:=p2.fresh T (fun M a=>by omega);have N4:=O.next
  have b5:=zOs O st.ok hM;have a3:=zOs O st.ok gT;have a6:=dg.mono O fun _ _ x=>x
  have d7:=hp.frame fun kv _ N z=>z.prs O
  have d8:((q:Nat):Int)< (i.length:Int):=by omega
  have f0:ld1 (.ptr A6 0) c=some (.int .i64 d.at_):=by rw[jP g3];rfl
  have f2:ld1 (.ptr A6 2) c=some (.int .u64 d.sum.toNat):=by
   rw[jP g3,Int.toNat_of_nonneg d5];rfl
  have f3:ldN 3 (.ptr A6 0) c=some (.agg (jV d)):=by rw[jU g3];rfl
  have f5:ld1 (.ptr k 5) c=some (.map B):=by rw[jP a3];rfl
  have f7:ld1 (.ptr k 7) c=some Y:=by rw[jP a3];rfl
  by_cases h1:d.at_=1
  .obtain⟨h8,Q,e4,h9,i0,L,f8⟩:=zNP (s:=d.sum.toNat) O.ok b5 d7;have b7:d.at_=((1:Nat):Int):=h1;have i3:Q.h.get k=some (.cells (xE p I C B G Y) 140 1 false):=by
    rw[L.keep _ (by omega) a8];exact a3
   have b8:E.drop (i.take (q+1))=E.drop (i.take q):=by
    rw[b3,Ev.drop,Ev.drop,K9,if_neg (by simpa using h1),yC]
   refine⟨_,Q, ?_,rfl,(st.trans (O.mono fun _ _ x=>x.elim)).trans (L.mono fun _ _ x=> .inl x),h8,Y,h9, ?_,i3, ?_,db,fun kv V=>hes kv (f8 kv V)⟩
   .simp(maxSteps:=999999)(disch:=omega) only[KG,eZ,d8,i1,i2,b2,d6,f0,b7,f5,f2,e4,zAJ,yF]
   .rw[b3,QR,if_pos h1];exact i0
   .rw[b8];exact a6.mono L fun M a K=>by subst K;exact zOu a6 b5 (fun _ _ K=>by cases K) a
  .have b7: ¬d.at_=((1:Nat):Int):=h1;obtain⟨Q,A7,b4,p4,g4,m4,n4⟩:=box O.ok (.cells (jV d) 42 3 false);have a7:=a6.mono p4 fun _ _ x=>x
   have f9:srcOf 3 (.slice A7 0 1 2) Q=some (1,jV d):=by simp only[srcOf,g4];rfl
   have g0:=zD4 E (i.take q);rw[qC]at g0;obtain⟨b9,H5,e5,a9,f,i4⟩:=a7.app (bytes:=24) (m:=1) (new:=jV d) p4.ok (by decide) f9 rfl rfl (by omega) (by decide);have M4:=p4.next;have M5:=f.next
   have i5: ¬Blk Y k:=zOu a7 (zOs p4 O.ok a3) (fun _ _ K=>by simp at K);have i6: ¬Blk Y B:=zOu a7 (zOs p4 O.ok b5) (fun _ _ K=>by cases K);have c4:H5.h.get k=some (.cells (xE p I C B G Y) 140 1 false):=by
    rw[f.keep _ (by omega) i5];exact zOs p4 O.ok a3
   obtain⟨H6,e6,g6,s6,n6⟩:=xT f.ok c4 (o:=7) (x:=b9) a9.isCell (by simp[xE]);have g6:H6.h.get k=some (.cells (xE p I C B G b9) 140 1 false):=g6;have i7:H6.h.get B=some (.map [10] a5):=by
    rw[s6.keep _ (by omega) (fun K=>a8 K.symm),f.keep _ (by omega) i6];exact zOs p4 O.ok b5
   have b8:(E.drop (i.take (q+1))).dl=(E.drop (i.take q)).dl++[d]:=by
    simp only[b3,Ev.drop,K9];rw[if_pos (by simpa using h1),qH]
   have e1:=bldQ 42 d [.int .i64 (0:Nat), .int .i64 (0:Nat), .int .u64 (0:Nat)] rfl;have i8:Stp (fun M=>M=B\/M=k\/Blk U M) H1 H6:=by
    refine Stp.thr (Stp.thr (st.trans ((O.trans p4).mono fun _ _ x=>x.elim)) f fun M K=> ?_) s6 fun M K=> .inr (.inr (.inl K))
    rcases db M K with x | x
    .exact .inr (.inr (.inr x))
    .exact .inl x
   refine⟨_,H6, ?_,rfl,i8,a5,b9,i7, ?_,g6, ?_,fun M a=> ?_,hes⟩
   .simp(maxSteps:=999999)(disch:=omega) only[KG,eZ,d8,i1,i2,b2,d6,f0,b7,f7,f3,e1,b4,e5,e6,zAJ,yF]
   .rw[b3,QR,if_neg h1];refine d7.frame fun kv V N z=> ?_
    have hk:=hes kv V;have h5:kJ H5 kv.2 N:=(z.prs p4).stp f fun M a K=>by
     rcases db M K with x | x
     .exact t.ds kv hk M a (.inl x)
     .have:=c9 kv hk M a;omega
    exact h5.stp s6 fun M a K=>by
     subst K;exact h5.nblk c4 (.inl ⟨_,_,_,_,rfl,fun _ _ K=>by rw[hd]at K;cases K⟩) a
   .rw[b8,zV,jJ];have e2:[d].flatMap jV=jV d:=by simp
    rw[e2];exact a9.mono s6 fun M a K=>by subst K;exact zOu a9 c4 (fun _ _ K=>by simp at K) a
   .rcases i4 M a with K | K
    .exact db M K
    .exact .inr (by omega)) n _ H1 ⟨rfl,zOp p1.ok,H,U,a4.gM,by simpa[bY]using a4.pq,a4.gT,by simpa[Ev.drop]using a4.dg,fun M a=> .inl a,fun _ H0=>H0⟩ z
 obtain⟨m,us,u,e2,rfl,st,b0,Z,hM,hp,d9,c5,c6,g7⟩:=lp;rw[jE]at hp c5;have N2:=st.next
 have f1:kL (m+1) (KG D n) [.ptr v 0, .ptr A3 0, .ptr k 0,g, .int .i64 (i.length:Nat), .int .i64 (i.length:Nat)] u=some (.exit 0 [.ptr v 0, .ptr A3 0, .ptr k 0],u):=jZ (by simp only[KG,eZ,yS]);have e0:u.h.get v=some (.cells [.ptr k 0, .int .u64 (J:Nat), .map l,g] 242 1 false):=by rw[st.keep _ (by omega) (nS _ (by omega))];exact a0.gC
 have i9:u.h.get l=some (.map [10] s):=by rw[st.keep _ (by omega) (nS _ (by omega))];exact a0.gF
 have j0:u.h.get A3=some (.cells (jV root) 42 1 false):=by rw[st.keep _ (by omega) (nS _ (by omega))];exact g1
 have j5: ∀S:List AV,∀x:AV,∀b,xE p I C B G x≠ .str S.length b::S:=fun S x b K=>by
  rw[hd]at K;simp[xE]at K
 have e7:uB u s P:=a0.pf.frame fun kv V N z=>z.stp st fun M a K=>by
  rcases K with K | K | K
  .subst K;exact z.nblk a4.gM (.inr (.inl ⟨_,_,rfl⟩)) a
  .subst K;exact z.nblk a4.gT (.inl ⟨_,_,_,_,rfl,fun _ _ K=>by rw[hd]at K;cases K⟩) a
  .exact y.gx kv V M a (.inl K)
 have c7:=zHO st.ok i9 hM (by omega) e7;have f4: ∀x∈s,v6 x.1 b0=none:=fun x hx=>by
  obtain⟨es,hs,hm⟩:=a0.pf.keys x hx;rw[hs];refine(hp.find es).2 ?_
  cases hk:jX es (bY e i)with
  | none=>rfl
  | some d0=>
   have m1:=ZQ (xY hk);obtain⟨k3,h3⟩:=gL (q:=e) (s:=es) (qK.2 ⟨_,m1,rfl⟩);obtain⟨k4,h4⟩:=gL hm;have:=hq _ _ h3;have:=y.fs _ _ h4;omega
 rw[zCg f4 (a0.pf.dist y.fd)]at c7;obtain⟨T,e8⟩:=zIf st.ok (st.ok.lt hM) (.map [10] (b0++s)) (1+1*s.length);have e9:u.next<=(AH.putB u B (.map [10] (b0++s)) (1+1*s.length)).next:=T.next
 generalize AH.putB u B (.map [10] (b0++s)) (1+1*s.length)=c at c7 T e8 e9;have j1:bU [.ptr v 0, .ptr A3 0, .ptr k 0] u=some c:=by
  have c1:ld1 (.ptr v (0+2)) u=some (.map l):=by rw[jP e0];rfl
  have c2:ld1 (.ptr k (0+5)) u=some (.map B):=by rw[jP d9];rfl
  have d1:Nat.blt l u.next=true:=by rw[qD];omega
  have d2:Nat.blt B u.next=true:=by rw[qD];omega
  have d3:Nat.blt k u.next=true:=by rw[qD];omega
  simp only[bU,c1,c2,d1,d2,d3,qO,zU,c7]
 have j2:c.h.get v=some (.cells [.ptr k 0, .int .u64 (J:Nat), .map l,g] 242 1 false):=by rw[T.keep _ (by omega) (by omega)];exact e0
 have a3:c.h.get k=some (.cells (xE p I C B G Z) 140 1 false):=by rw[T.keep _ (by omega) a8];exact d9
 have j3:c.h.get A3=some (.cells (jV root) 42 1 false):=by rw[T.keep _ (by omega) (by omega)];exact j0
 obtain⟨Q,e4,g4,L,n4⟩:=xT T.ok a3 (o:=6) (x:= .int .u64 (J:Nat)) rfl (by simp[xE]);have g4:Q.h.get k=some (.cells (xE p I C B J Z) 140 1 false):=g4;have j4:Q.h.get A3=some (.cells (jV root) 42 1 false):=by rw[L.keep _ (by omega) (by omega)];exact j3
 have e5:=JH (o:=2) (n:=3) (x:= .agg (jV root)) g4 (by decide) rfl rfl (by simp[xE]);have g5:(Q.put k (.cells ((xE p I C B J Z).take 2++kC (.agg (jV root))++(xE p I C B J Z).drop (2+3)) 140 1 false)).h.get k=some (.cells (xE p I root B J Z) 140 1 false):=by rw[zOl,if_pos rfl];rfl
 have f:Stp (fun M=>M=k) Q (Q.put k (.cells ((xE p I C B J Z).take 2++kC (.agg (jV root))++(xE p I C B J Z).drop (2+3)) 140 1 false)):=(zOp L.ok).put (L.ok.lt g4) _ (.inr rfl);generalize Q.put k (.cells ((xE p I C B J Z).take 2++kC (.agg (jV root))++(xE p I C B J Z).drop (2+3)) 140 1 false)=H5 at e5 g5 f;have N3:=T.next;have N4:=L.next;have N5:=f.next
 have fr: ∀ {j:AV} {N:Nd.Node},kJ u j N->kJ H5 j N:=fun {j N} z=>by
  have h3:kJ c j N:=z.stp T fun M a K=>by subst K;exact z.nblk hM (.inr (.inl ⟨_,_,rfl⟩)) a
  have h4:kJ Q j N:=h3.stp L fun M a K=>by subst K;exact h3.nblk a3 (.inl ⟨_,_,_,_,rfl,fun _ _ K=>by rw[hd]at K;cases K⟩) a
  exact h4.stp f fun M a K=>by subst K;exact h4.nblk g4 (.inl ⟨_,_,_,_,rfl,fun _ _ K=>by rw[hd]at K;cases K⟩) a
 have a6:=c5.mono T fun M a K=>by subst K;exact zOu c5 hM (fun _ _ K=>by cases K) a
 have a7:=a6.mono L fun M a K=>by subst K;exact zOu a6 a3 (fun _ _ K=>by simp at K) a
 have a9:=a7.mono f fun M a K=>by subst K;exact zOu a7 g4 (fun _ _ K=>by simp at K) a
 have T5:Stp (fun M=>M=k\/M=B\/Blk U M) h H5:=⟨f.ok,by omega,fun M a hS=>by
  have a1: ¬M=k:=fun K=>hS (.inl K)
  have a2: ¬M=B:=fun K=>hS (.inr (.inl K))
  rw[f.keep M (by omega) a1,L.keep M (by omega) a1,T.keep M (by omega) a2,st.keep M (by omega) (fun x=>by
   rcases x with x | x | x
   .exact a2 x
   .exact a1 x
   .exact hS (.inr (.inr x))),p1.keep M (by omega) (fun x=>x),y.prs.keep M a (fun x=>x)]⟩
 refine⟨H5,b0++s,Z, ?_,⟨f.ok,g5, ?_, ?_, ?_,t.cn,a9,fun kv V M a hb=> ?_, ?_,fun M a=>qJ (t.xl M a) T5.next⟩,T5,fun M a=> ?_⟩
 .have g8:Nat.ble u.next c.next=true:=by rw[qT];exact e9
  have c0:ld1 (.ptr v 0) H1=some (.ptr k 0):=by rw[jP a0.gC];rfl
  have c3:ld1 (.ptr v 3) H1=some g:=by rw[jP a0.gC];rfl
  have c1:ld1 (.ptr v 1) c=some (.int .u64 (J:Nat)):=by rw[jP j2];rfl
  have r3:ldN 3 (.ptr A3 0) Q=some (.agg (jV root)):=by rw[jU j4];rfl
  simp(maxSteps:=999999)(disch:=omega) only[f126,eZ,b1,c0,c3,a0.gg.row.lnSl,e2,f1,zK0,j1,tld,g8,zU,c1,e4,r3,e5]
 .rw[f.keep _ (by omega) (fun K=>a8 K.symm),L.keep _ (by omega) (fun K=>a8 K.symm)];exact e8
 .exact uB.append (e7.frame fun kv _ N z=>fr z) (hp.frame fun kv _ N z=>fr z)
 .exact t.dks T5 fun M a=>by
   rcases a with K | K | K
   .exact .inl K
   .exact .inr (.inl K)
   .exact .inr (.inr (.inl K))
 .rcases qB.1 V with V | V
  .have hk:=g7 kv V;rcases hb with hb | hb
   .rcases c6 M hb with K | K
    .exact t.ds kv hk M a (.inl K)
    .have:=c9 kv hk M a;omega
   .exact t.ds kv hk M a (.inr hb)
  .rcases hb.imp (c6 M) id with(K | K) | K
   .exact y.gx kv V M a (.inl K)
   .obtain⟨d0,b6⟩:=y.pf.mem kv V;have:=b6.lt a;omega
   .exact y.gx kv V M a (.inr K)
 .have h1:=ZR i e;have h2:=y.fl;simp only[zV];omega
 .rcases c6 M a with K | K
  .exact .inl K
  .exact .inr (by omega)
end Go.Eng.Sh
end
section
namespace Go.Bt
open Go.Nd (Str Kvs Ptr leafOf)
theorem WF.wr: ∀ {h:Nat} {t:Tr h},WF h none none t->WR h t
 | 0,_,w=>w
 | _+1,_,w=>⟨w.1,w.2.1,w.2.2.2⟩
theorem WX.wr: ∀ {h:Nat} {t:Tr h},WX h none none t->(match h,t with | 0,l=>(l:Kvs)≠[] | _+1,t=>t.1≠[])->wB h t<=500->WR h t
 | 0,_,w,hne,hz=>⟨w.1,hne,hz⟩
 | _+1,_,w,hne,hz=>⟨w.1,hne,hz⟩
end Go.Bt
namespace Go.Eng.Sh
open Go.Nd (Ptr sumL leafOf Kvs)
open Go.Bt
variable {E:Ev}{X:Nat->Prop}
def pZ:Ptr:=⟨((0:Nat):Int),((0:Nat):Int),((0:Nat):Int)⟩
def dsk (T:List Ptr):List Ptr:=T.filter fun p=>decide (p.at_≠1)
theorem zC1 (a b:List Ptr):dsk (a++b)=dsk a++dsk b:=jK ..
theorem zNO (h: ∀p∈i,∃j,p=pp j):dsk i=[]:=List.filter_eq_nil_iff.2 fun p hp=>by
 obtain⟨j,rfl⟩:=h p hp;simp[pp]
def cp (l:List Ptr):Nat:=(l.filter fun p=>decide (p.at_=1)).length
theorem zGT:cp []=0:=rfl
theorem fF (p:Ptr)(l:List Ptr):cp (p::l)=(if p.at_=1 then 1 else 0)+cp l:=by
 by_cases e:p.at_=1
 .simp[cp,e];omega
 .simp[cp,e]
theorem cO (a b:List Ptr):cp (a++b)=cp a+cp b:=by simp[cp,jK]
theorem zGS (h:i.Perm M):cp i=cp M:=(h.filter _).length_eq
theorem cp_pp (h: ∀p∈i,∃j,p=pp j):cp i=i.length:=by
 rw[cp,List.filter_eq_self.2 fun p hp=> ?_];obtain⟨j,rfl⟩:=h p hp;simp[pp]
theorem zAR {s:Nat}{f:Nd.Node} : ∀ {q:PN},jX s q=some f->(zAS s q).length+1=q.length
 | [],h=>by cases h
 | (a,n)::q,h=>by
  simp only[jX]at h;simp only[zAS];by_cases e:a=s
  .rw[if_pos e];rfl
  .rw[if_neg e]at h⊢;have:=zAR h;simp only[zY];omega
theorem UL: ∀ {gl:List Ptr} {q:PN},gl.Nodup->(∀p∈gl,p.at_=1-> ∃s f,p=pp s/\jX s q=some f)->(bY q gl).length+cp gl<=q.length
 | [],q,_,_=>by simp[bY,cp]
 | p::gl,q,hn,h=>by
  obtain⟨j,a⟩:=List.nodup_cons.1 hn;rw[bY,fF];by_cases e:p.at_=1
  .rw[if_pos e,if_pos e];obtain⟨s,f,rfl,u⟩:=h p (zJ ..) e;have m:(pp s).sum.toNat=s:=by simp[pp]
   rw[m];have z:=zAR u;have C:=UL a (q:=zAS s q) fun r hr v=>by
    obtain⟨i,o,rfl,x⟩:=h r (zE _ hr) v;have t:i≠s:=fun y=>j (y▸hr)
    exact⟨i,o,rfl,by rw[JY t];exact x⟩
   omega
  .rw[if_neg e,if_neg e];have:=UL a (q:=q) fun r hr=>h r (zE _ hr)
   omega
theorem zK8 {Fr R:List Ptr}(x:M.Perm (i++R))(u:r.Perm (Fr++R))(y:(i++R).Nodup)(gl: ∀p∈i,∃f,Qf E e [] p=some f)(z: ∀p∈Fr,∃j,p=pp j)(fl:P.length+k<=v)(F:k+Fr.length=v)(C:e.length<=cp M):(bY e i++P).length<=cp r:=by
 have a:=UL (q:=e) (List.nodup_append.1 y).1 fun p hp q=>by
  obtain⟨f,h⟩:=gl p hp;obtain⟨s,rfl,a | ⟨_,a⟩⟩ | ⟨_,a⟩:=vV h
  .simp[jX]at a
  .exact⟨s,f,rfl,a⟩
  .have:=(bX a).2;omega
 rw[zGS x,cO]at C;rw[zGS u,cO,cp_pp z,zV];omega
theorem zD3 (E:Ev){Fr R:List Ptr}(h:i.Perm (r++R))(o:M.Perm (Fr++R))(q: ∀p∈Fr,∃j,p=pp j):(dsk M++(E.drop r).dl).Perm (dsk i++E.dl):=by
 have m:(dsk i).Perm (dsk (r++R)):=h.filter _;have f:(dsk M).Perm (dsk (Fr++R)):=o.filter _;rw[zC1]at m f;rw[zNO q,yA]at f;have s:(E.drop r).dl=E.dl++dsk r:=rfl;rw[s];rw[List.perm_iff_count]at m f⊢;intro a;have t:=m a;have u:=f a;simp only[List.count_append]at t u⊢;omega
def xW (E:Ev)(q:PN)(root:Ptr)(kv:Kvs)(T:List Ptr):Prop:=(root=pZ/\kv=[]/\T=[])\/ ∃h a,∃t:Bt.Tr h,∃S:List Ptr,Qf E q [] root=some a/\wE (Qf E q []) h a t S/\WR h t/\(root::S).Nodup/\con h t=kv/\T=root::S
theorem vB.here {α:Type}{Q:Ptr->Option Nd.Node}{R:Nd.Node->α->List Ptr->Prop}(hr: ∀f t S,R f t S-> ∀p∈S,∃f,Q p=some f): ∀ {j:List Ptr} {ts:List α} {S:List Ptr},vB Q R j ts S-> ∀p∈S,∃f,Q p=some f
 | [],[],_,h=>by subst h;simp
 | p::j,t::ts,_,⟨f,S1,S2,a,b,c,e⟩=>fun x i=>by
  subst e;rcases zO.1 i with rfl | i
  .exact⟨f,a⟩
  .rcases qB.1 i with i | i
   .exact hr _ _ _ b x i
   .exact vB.here hr c x i
 | [],_::_,_,h=>h.elim
 | _::_,[],_,h=>h.elim
theorem wE.here {Q:Ptr->Option Nd.Node} : ∀ {h:Nat} {a:Nd.Node} {t:Bt.Tr h} {S:List Ptr},wE Q h a t S-> ∀p∈S,∃a,Q p=some a
 | 0,_,_,_,w=>by obtain⟨_,rfl⟩:=w;simp
 | h+1,_,_,_,w=>vB.here (fun _ _ _ hr=>wE.here hr) w.2.2.2
theorem zKS {q f:PN}{gl T Fr R:List Ptr}{o:Nat}(t: ∀s m,jX s q=some m->s<=o)(K: ∀s m,jX s f=some m->o<s)(x:T.Perm (Fr++R))(L:(gl++R).Nodup)(F: ∀p∈gl,∃m,Qf E q [] p=some m)(u: ∀p∈Fr,∃j,p=pp j/\o<j)(G:Fr.Nodup)(hR: ∀p∈R,∃m,Qf E q [] p=some m):
  T.Nodup/\ ∀p∈T,∀m,Qf E q f p=some m->Qf E (bY q gl++f) [] p=some m:=by
 have z: ∀s,pp s∈R->s<=o:=fun s hp=>by
  obtain⟨m,h⟩:=hR _ hp;obtain⟨y,e,i | ⟨_,i⟩⟩ | ⟨i,_⟩:=vV h
  .simp[jX]at i
  .have:=Y3 e;subst this;exact t _ _ i
  .exact absurd rfl (i s)
 obtain⟨_,I,C⟩:=List.nodup_append.1 L;refine⟨x.nodup_iff.2 (List.nodup_append.2 ⟨G,I,fun a M b hb e=> ?_⟩),fun p hp m h=> ?_⟩
 .obtain⟨j,rfl,N⟩:=u a M;subst e;have:=z j hb;omega
 .obtain⟨s,rfl,i | ⟨Z,i⟩⟩ | ⟨i,O⟩:=vV h
  .rw[UW];simp only[jX];have Q:=K _ _ i;rw[xZ]
   cases S:jX s (bY q gl)with
   | none=>exact i
   | some n2=>
    obtain⟨n3,U⟩:=gL (qK.2 ⟨_,ZQ (xY S),rfl⟩);have:=t _ _ U;simp only at this;omega
  .rw[UW];simp only[jX];have Q:=t _ _ i;have J:pp s∈R:=by
    rcases qB.1 (x.mem_iff.1 hp)with e | e
    .obtain⟨j,e,N⟩:=u _ e;have:=Y3 e;omega
    .exact e
   rw[xZ,XV fun V v e1 e=> ?_,i];obtain⟨Y,W⟩:=F V v;obtain⟨y,rfl,_⟩ | ⟨_,hd⟩:=vV W
   .have:s=y:=by simpa[pp]using e
    subst this;exact C _ v _ J rfl
   .have:=(bX hd).2;omega
  .rw[Y0 i];exact O
theorem zCE (o: ∀s a,jX s e=some a->s<=k)(p: ∀s a,jX s P=some a->k<s/\s<=v)(hl:k<=v): ∀s a,jX s (bY e i++P)=some a->s<=v:=fun s a h=>by
 rw[xZ]at h
 cases m:jX s (bY e i)with
 | none=>rw[m]at h;exact(p _ _ h).2
 | some n2=>
  obtain⟨u,t⟩:=gL (qK.2 ⟨_,ZQ (xY m),rfl⟩);have:=o _ _ t;simp only at this;omega
theorem vB.perm_one {α:Type}{R:Nd.Node->α->List Ptr->Prop}{t:α}(h:vB z R i [t] M): ∃p f Q,i=[p]/\z p=some f/\R f t Q/\M=p::Q:=by
 match i,h with
 | [p],⟨f,Q,S2,a,b,c,e⟩=>exact⟨p,f,Q,rfl,a,b,by simp only[vB]at c;rw[e,c,yC]⟩
 | _::_::_,⟨_,_,_,_,_,c,_⟩=>exact c.elim
 | [],h=>exact h.elim
theorem CutsN.one_inv {i:List Str}(h:CutsN q Y i)(j:Nd.size q<=500):Y=[q]/\i=[]:=by
 cases h with
 | one _=>exact⟨rfl,rfl⟩
 | more h1=>omega
theorem CutsN.more_inv {f:List Str}(h:CutsN q Y f)(j:500<Nd.size q):f≠[]:=by
 cases h with
 | one h1=>omega
 | more h1=>simp
end Go.Eng.Sh
end
section
namespace Go.Eng.Sh
open Go.Nd (Ptr sumL leafOf Kvs)
open Go.Bt
variable {E:Ev}
def zJu (E:Ev)(H0 H':AH)(i M:Nat)(d c j:AV)(low top:Nat)(kv:Kvs)(T:List Ptr):Prop:= ∃gl root es q a h f,TI (E.drop gl) H' i M d c root es q a h/\Stp (fun B=>B=i\/B=M\/Blk j B) H0 H'/\(∀B,Blk h B->Blk j B\/H0.next<=B)/\(∀s m,jX s q=some m->s<=a)/\(q.length<=a/\q.length<=cp f)/\low<=a/\a<=top/\xW E q root kv f/\(dsk f++(E.drop gl).dl).Perm (dsk T++E.dl)/\gl.length<=100
theorem zJu.mono (H0:zJu E h F k v p I U l G L i)(hl:B<=l)(H':G<=J):zJu E h F k v p I U B J L i:=by
 obtain⟨gl,root,es,q,m,o,s,t,u,M,x,y,h6,c,z,C,d⟩:=H0;exact⟨gl,root,es,q,m,o,s,t,u,M,x,y,by omega,by omega,z,C,d⟩
theorem zKi (h:Qf E e P C=some q):0<=C.sum:=by
 obtain⟨s,rfl,_⟩ | ⟨_,j⟩:=vV h
 .simp[pp]
 .obtain⟨a,birth,kind,body,rfl,_⟩:=zOo.1 j;simp[bT]
theorem zGI(S:TI E h k B p I C H e G U)(y: ∀z m,jX z e=some m->z<=G)
  (j:Ch (XE E U) h F k v l s P g i G J) (u: ∀x∈i,∃m,Qf E e [] x=some m) (hl:J<=900000000) (c:i.length<n) (es:e.length<=G) (d:E.dl.length+i.length<=900000000) (o:M.Perm i) (q:i.length<=100) (K:e.length<=cp M) (L:G=J) (N:i.Nodup):
  ∃H',f126 D n [.ptr v 0, .agg [.int .i64 (0:Nat), .int .i64 (0:Nat), .int .u64 (0:Nat)]] F=some (.tuple [],H')/\zJu E h H' k B p I U J J [] M:=by
 obtain⟨H',es',O,t,Q,st,V⟩:=zGJ D n (root:=pZ) S y j (fun x hp=>(u x hp).elim fun m H0=>zKi H0) hl c es d;refine⟨H',t,i,_,_,_,J,O,[],Q,st,V,zCE y j.fs j.le, ?_,zP _,zP _, .inl ⟨rfl,rfl,rfl⟩,zD3 E (R:=[]) (Fr:=[]) (by simpa using o) (by simp) (by simp),q⟩;refine⟨?_,zK8 (E:=E) (R:=[]) (Fr:=[]) (by simpa using o) (by simp) (by simpa using N) u (by simp) j.fl (by simpa using L) K⟩;have W:=ZR i e;have Y:=j.fl;simp only[zV];omega
theorem ZO{c:AH}{h:Nat}{rp:Ptr}{Fr R T:List Ptr}{t:Bt.Tr h}{S:List Ptr}(ti:TI E F k B p I C H e G U)(z: ∀K q,jX K e=some q->K<=G)
  (o:Ch (XE E U) F c k v l s P g i G J) (u: ∀x∈i,∃q,Qf E e [] x=some q) (hl:J<=900000000) (hn:i.length<n) (N:e.length<=G) (O:E.dl.length+i.length<=900000000)
  (hs:Qf E e P rp=some q) (rn:wE (Qf E e P) h q t S) (wr:WR h t) (d:(rp::S).Perm (Fr++R)) (L:(i++R).Nodup) (H0: ∀x∈Fr,∃j,x=pp j/\G<j) (Q:Fr.Nodup) (hR: ∀x∈R,∃q,Qf E e [] x=some q) (es:T.Perm (i++R)) (M:i.length<=100) (V:e.length<=cp T) (W:G+Fr.length=J):
  ∃H',f126 D n [.ptr v 0, .agg (jV rp)] c=some (.tuple [],H')/\zJu E F H' k B p I U J J (con h t) T:=by
 obtain⟨H',es',Y,y,Z,st,db⟩:=zGJ D n (root:=rp) ti z o (fun x hp=>(u x hp).elim fun q h=>zKi h) hl hn N O;obtain⟨a0,mono⟩:=zKS z (fun K q h=>(o.fs K q h).1) d L u H0 Q hR;refine⟨H',y,i,_,_,_,J,Y,_,Z,st,db,zCE z o.fs o.le, ?_,zP _,zP _, .inr ⟨h,q,t,S,mono rp (zJ ..) q hs,rn.mono (fun x hp q hh=>mono x (zE _ hp) q hh),wr,a0,rfl,rfl⟩,zD3 E es d fun x hp=>(H0 x hp).elim fun j h=>⟨j,h.1⟩,M⟩;refine⟨?_,zK8 es d L u (fun x hp=>(H0 x hp).elim fun j h=>⟨j,h.1⟩) o.fl W V⟩;have h1:=ZR i e;have h2:=o.fl;simp only[zV];omega
theorem zIT(hn:200000000<=n){u:AV}{T:List Ptr}{t:Bt.Tr G}{S:List Ptr}(ti:TI E h k B p I C H e J U)(O: ∀f5 q,jX f5 e=some q->f5<=J)
  (y:Ch (XE E U) h F k v l s P u i J N) (a9: ∀c∈i,∃q,Qf E e [] c=some q) (hl:N<=700000000) (b0:i.length<n) (b2:e.length<=J) (hu:xO (XE E U) F u g q)
  (d:wE (Qf E e P) G q t S) (wx:WX G none none t) (hS:S.Perm (M++r)) (hG:(i++r).Nodup) (b3: ∀c∈M,∃j,c=pp j/\J<j/\j<=N) (c0:M.Nodup) (hR: ∀c∈r,∃q,Qf E e [] c=some q) (b4:E.dl.length+i.length<=900000000) (a0:T.Perm (i++r)) (b5:i.length<=100) (b6:e.length<=cp T) (f6:J+M.length=N):
  ∃H',f131 D n [.ptr v 0,g] F=some (.int .i64 (0:Nat),H')/\zJu E h H' k B p I U N (N+7) (con G t) T:=by
 obtain⟨ks,d4,ps,rfl,j1,j2,j3⟩:=id hu.1;obtain⟨H1,Q,b1,dr,V,m1,n1⟩:=box y.prs.ok (.cells [.bool q.leaf,ks,d4,ps] 119 1 false);have Fr:=y.step dr;have f7:=hu.prs dr;have b7: ∀c∈M,∃j,c=pp j/\J<j:=fun c hp=>by obtain⟨j,a,b,_⟩:=b3 c hp;exact⟨j,a,b⟩
 have e0:ld1 (.ptr Q 0) H1=some (.bool q.leaf):=by rw[jP V];rfl
 have e1:ld1 (.ptr Q 1) H1=some ks:=by rw[jP V];rfl
 have e3:ld1 (.ptr Q 3) H1=some ps:=by rw[jP V];rfl
 by_cases e8:q.keys=[]
 ·
  have a5:(q.keys.length:Int)=((0:Nat):Int):=by rw[e8];rfl
  cases G with
  | zero=>
   obtain⟨d5,rfl⟩:=d;have f8:r=[]:=by
    have:=hS.length_eq;simp only[yO,zV]at this;exact zR (by omega)
   have h9:M.length=0:=by
    have:=hS.length_eq;simp only[yO,zV]at this;omega
   rw[f8,yC]at a0 hG;have ht:t=([]:Kvs):=List.map_eq_nil_iff.1 (show List.map Prod.fst (t:Kvs)=[]from(show(leafOf t).keys=[]from d5▸e8));subst ht;obtain⟨H2,W,K⟩:=zGI D n ti O Fr a9 (by omega) b0 b2 b4 a0 b5 b6 (by omega) hG;refine⟨H2, ?_,K.mono (zP _) (by omega)⟩;have c3:ld1 (.ptr Q 0) H1=some (.bool true):=by rw[e0,d5];rfl
   have bs:uD [(0,1),(1,1),(2,1)] [.int .i64 (0:Nat), .int .i64 (0:Nat), .int .u64 (0:Nat)] []=some (.agg [.int .i64 (0:Nat), .int .i64 (0:Nat), .int .u64 (0:Nat)]):=rfl;simp(maxSteps:=999999)(disch:=omega) only[f131,eZ,b1,e1,j1.row.lnSl,a5,c3,bs,W,zCZ]
  | succ G=>
   obtain⟨r1,r2,r3,r4⟩:=id d;obtain⟨Y,w2⟩:=id wx;rw[e8]at r2;have a7:=Y.2.2.len;rw[<-r2]at a7;obtain⟨t1,c4⟩: ∃t1,t.2=[t1]:=by
    match ht:t.2,a7 with
    | [a],_=>exact⟨a,rfl⟩
   have d6:=Y.2.2;rw[<-r2,c4]at d6;rw[c4]at r4;obtain⟨k0,i0,S1,c5,q1,f9,g0⟩:=vB.perm_one r4;subst g0;obtain⟨H2,W,K⟩:=ZO D n ti O Fr a9 (by omega) b0 b2 b4 q1 f9 (WF.wr d6) hS hG b7 c0 hR a0 b5 b6 f6;have c3:ld1 (.ptr Q 0) H1=some (.bool false):=by rw[e0,r1]
   have b8:con (G+1) t=con G t1:=by simp only[con,c4,qM,List.flatMap_nil,yC]
   rw[b8];refine⟨H2, ?_,K.mono (zP _) (by omega)⟩;obtain⟨qk,ik,a6⟩:=bI.at (l:=q.kids) (j3.mono dr (fun _ _ x=>x)).row (i:=0) (by rw[c5];simp);have c6:q.kids[0]'(by rw[c5];simp)=k0:=by simp[c5]
   rw[c6]at a6;simp(maxSteps:=999999)(disch:=omega) only[f131,eZ,b1,e1,j1.row.lnSl,a5,c3,e3,ik,a6,W,zCZ]
 ·
  have a5: ¬(q.keys.length:Int)=((0:Nat):Int):=by
   have:q.keys.length≠0:=fun es=>e8 (zR es)
   omega
  have g2:=d.shaped wx.gen (fun _=>e8) (wE.kidOk d);have hz:Nd.size q<=785:=by rw[d.size];exact wx.sz
  obtain⟨pv,sv,H2,vs,o,z,W,p2,a8,oP,f1,oS,bP,bS,g3⟩:=zAT D n hn dr.ok f7.1 g2 (by omega);obtain⟨ts,c1,c2⟩:=UM a8 d wx;have i1:o.length<=6:=by
   by_cases hb:Nd.size q<=500
   .rw[(a8.one_inv hb).1];simp
   .have:=(UK c1 wx (.inr (by rw[<-d.size];omega))).2.2.1;rw[c2.len];exact this
  have g4:=Fr.step p2;obtain⟨kv,H3,d7,c7,a3,o3,f3⟩:=zBi D n hn g4 oP f1 (fun At hl Ac hB=>by
   rcases g3 At hl Ac hB with es | es
   .exact hu.2 Ac es
   .exact⟨fun c8=>by have:=zOx Fr.gg.row c8;omega,fun hx=>by have:=Fr.xo Ac hx;have:=Fr.prs.next;omega⟩) (by omega) (by omega)
  have N1:=dr.next;have N2:=p2.next;have N3:=a3.1.next
  have e9: ∀j,jX (N+1+j) P=none:=fun j=>by
   cases e8:jX (N+1+j) P with
   | none=>rfl
   | some n2=>have:=y.fs _ _ e8;omega
  have f2: ∀f5 gl,jX f5 (v7 N o)=some gl->J<f5:=fun f5 gl hs=>by have:=W3 hs;have:=y.le;omega
  have more: ∀c q,Qf E e P c=some q->Qf E e (P++v7 N o) c=some q:=fun c q hp=>UX O f2 hp
  have d8: ∀j gl,o[j]? =some gl->Qf E e (P++v7 N o) (pp (N+1+j))=some gl:=fun j gl hj=>by rw[UW,xZ,e9];simp only[QI hj]
  have c9:bI H3 kv (pps N o.length):=by
   have:=o3.row;rw[bI,fZ];exact this
  have d0:=c9.lnSl;rw[fZ]at d0;have d9: ¬(((0:Nat):Int)≠((0:Nat):Int)):=by omega
  by_cases hb:Nd.size q<=500
  .obtain⟨rfl,rfl⟩:=a8.one_inv hb;have b9:(([q].length:Nat):Int)=((1:Nat):Int):=rfl;have wr:WR G t:=wx.wr (by
    cases G with
    | zero=>obtain⟨rfl,_⟩:=d;intro es;exact e8 (by rw[show t=([]:Kvs)from es];rfl)
    | succ G=>exact(show t.1≠[]from d.2.1▸e8)) (by rw[<-d.size];exact hb)
   have d1: ∀c∈pp (N+1)::M,∃j,c=pp j/\J<j:=fun c hp=>by
    rcases zO.1 hp with rfl | hp
    .exact⟨_,rfl,by have:=y.le;omega⟩
    .exact b7 c hp
   have d2:(pp (N+1)::M).Nodup:=List.nodup_cons.2 ⟨fun hp=>by
    obtain⟨j,es,_,hj⟩:=b3 _ hp;have:=Y3 es;omega,c0⟩
   obtain⟨H4,e4,K⟩:=ZO D n (rp:=pp (N+1)) (t:=t) (S:=S) ti O c7 a9 (by simp;omega) b0 b2 b4 (d8 0 q rfl) (d.mono fun c _ q hp=>more c q hp) wr (List.Perm.cons _ hS) hG d1 d2 hR a0 b5 b6 (by simp;omega);refine⟨H4, ?_,K.mono (by simp) (by simp)⟩;obtain⟨qk,ik,a6⟩:=bI.at c9 (i:=0) (by simp[pps]);have c6:(pps N [q].length)[0]'(by simp[pps])=pp (N+1):=by simp[pps]
   rw[c6]at a6;simp(maxSteps:=999999)(disch:=omega) only[f131,eZ,b1,e1,j1.row.lnSl,a5,bF V rfl,W,jR,nth,d9,d7,d0,b9,ik,a6,e4,zGp]
  .have e6:=a8.more_inv (by omega);obtain⟨Y,w2,w3,_⟩:=UK c1 wx (.inr (by rw[<-d.size];omega));have a7:=Y.2.2.len;simp only at a7;have h7:z.length≠0:=fun es=>e6 (zR es)
   have i2:=c2.len;have b9: ¬(o.length:Int)=((1:Nat):Int):=by omega
   have g5:zDx (Qf E e (P++v7 N o)) G o ts S:=by
    have mono: ∀ {Z:List Nd.Node} {L:List (Bt.Tr G)} {S':List Ptr},zDx (Qf E e P) G Z L S'->zDx (Qf E e (P++v7 N o)) G Z L S':=by
     intro Z
     induction Z with
     | nil=>intro L S' hp;cases L with
      | nil=>exact hp
      | cons=>exact hp.elim
     | cons a Z ih=>intro L S' hp;cases L with
      | nil=>exact hp.elim
      | cons b L=>
       obtain⟨S1,S2,a1,a2,a3⟩:=hp;exact⟨S1,S2,a1.mono fun c _ q hp=>more c q hp,ih a2,a3⟩
    exact mono c2
   obtain⟨S2,r2,g6⟩:=g5.kids N d8;have i3:H3.h.get Q=some (.cells [.bool q.leaf,ks,d4,ps] 119 1 false):=by
    rw[a3.1.keep _ (by omega) (fun hc=>by
     rcases hc with es | es | es
     .have:=y.ltC;omega
     .have:=y.ltF;omega
     .have:=zOx y.gg.row es;omega)]
    exact zOs p2 dr.ok V
   have e7:Own 1 9 H3 sv z.length (z.map Go.Eng.S):=oS.mono a3.1 (fun Ac hB hc=>by
    have:=bS Ac hB;rcases hc with es | es | es
    .have:=y.ltC;omega
    .have:=y.ltF;omega
    .have:=zOx y.gg.row es;omega)
   have g7:kJ H3 (.agg [.bool false,sv, .nS,kv]) ⟨false,z,[],pps N o.length⟩:=⟨sv, .nS,kv,rfl, .inl e7, .inl (zOv ..), .inl (by
    simp only[fZ];exact o3)⟩
   have g8:xO (XE E U) H3 u (.agg [.bool false,sv, .nS,kv]) ⟨false,z,[],pps N o.length⟩:=⟨g7,fun Ac hB=>by
    have i4:F.next<=Ac:=by
     rcases wU.1 hB with es | es | es
     .have:=bS Ac es;omega
     .exact(zOt.1 es).elim
     .have:=f3 Ac es;omega
    exact⟨fun c8=>by have:=zOx y.gg.row c8;omega,fun hx=>by have:=y.xo Ac hx;have:=y.prs.next;omega⟩⟩
   obtain⟨H4,e4,g9,a4⟩:=zHp D n c7 g8 (by omega);have f4:jX (N+o.length+1) (P++v7 N o)=none:=by
    cases e8:jX (N+o.length+1) (P++v7 N o)with
    | none=>rfl
    | some n2=>have:=c7.fs _ _ e8;omega
   have d3: ∀c gl,Qf E e (P++v7 N o) c=some gl->Qf E e (P++v7 N o++[(N+o.length+1,⟨false,z,[],pps N o.length⟩)]) c=some gl:=fun c gl hp=>UX O (fun f5 q hs=>by
    simp only[jX]at hs;split at hs
    .have:=y.le;omega
    .cases hs) hp
   have h0:Qf E e (P++v7 N o++[(N+o.length+1,⟨false,z,[],pps N o.length⟩)]) (pp (N+o.length+1))=some ⟨false,z,[],pps N o.length⟩:=by
    rw[UW,xZ,f4];simp[jX]
   have h5:wE (Qf E e (P++v7 N o++[(N+o.length+1,⟨false,z,[],pps N o.length⟩)])) (G+1) ⟨false,z,[],pps N o.length⟩ (z,ts) S2:=⟨rfl,rfl,rfl,r2.mono (fun c _ q hp=>d3 c q hp) (fun q t S1 _ hr=>hr.mono fun c _ q hp=>d3 c q hp)⟩;have h8:=Q7 (ks:=z) (fun H0 e8=>(Y.1 H0 e8).1);have h6:WR (G+1) (z,ts):=⟨Y,e6,by simp only[wS];omega⟩;have d1: ∀c∈pp (N+o.length+1)::(pps N o.length++M),∃j,c=pp j/\J<j:=fun c hp=>by
    have:=y.le;rcases zO.1 hp with rfl | hp
    .exact⟨_,rfl,by omega⟩
    .rcases qB.1 hp with hp | hp
     .obtain⟨j,rfl,h1,h2⟩:=cW hp;exact⟨_,rfl,by omega⟩
     .exact b7 c hp
   have d2:(pp (N+o.length+1)::(pps N o.length++M)).Nodup:=by
    refine List.nodup_cons.2 ⟨fun hp=> ?_,List.nodup_append.2 ⟨JP _ _,c0,fun a ha b hb es=> ?_⟩⟩
    .rcases qB.1 hp with hp | hp
     .obtain⟨j,es,h1,h2⟩:=cW hp;have:=Y3 es;omega
     .obtain⟨j,es,h1,h2⟩:=b3 _ hp;have:=Y3 es;omega
    .obtain⟨j,rfl,h1,h2⟩:=cW ha;obtain⟨j',rfl,h3,h4⟩:=b3 _ hb;have:=Y3 es;omega
   have hT:(pp (N+o.length+1)::S2).Perm ((pp (N+o.length+1)::(pps N o.length++M))++r):=by
    rw[qF,qH];exact List.Perm.cons _ (g6.trans (List.Perm.append_left _ hS))
   obtain⟨H5,e5,K⟩:=ZO D n (rp:=pp (N+o.length+1)) ti O g9 a9 (by omega) b0 b2 b4 h0 h5 h6 hT hG d1 d2 hR a0 b5 b6 (by simp only[zY,zV,fZ];omega);have b8:con (G+1) (z,ts)=con G t:=w2;rw[b8]at K;refine⟨H5, ?_,K.mono (by omega) (by omega)⟩;simp(maxSteps:=999999)(disch:=omega) only[f131,eZ,b1,e1,j1.row.lnSl,a5,bF V rfl,W,jR,nth,d9,d7,d0,b9,zM6 e7.row.isCell c9.isCell,e4,e5,zGp]
end Go.Eng.Sh
end
section
namespace Go.Bt
open Go.Nd (Str Kvs leafOf)
theorem WR.gen: ∀ {h:Nat} {t:Tr h},WR h t->Gen h none none t
 | 0,_,w=>w.1
 | _+1,_,w=>w.1
theorem WR.sz: ∀ {h:Nat} {t:Tr h},WR h t->wB h t<=500
 | 0,_,w=>w.2.2
 | _+1,_,w=>w.2.2
theorem zCP {h:Nat} : ∀ {ts:List (Tr h)},(∀t∈ts,2 ^ h<=(con h t).length)->ts.length*2 ^ h<=(ts.flatMap (con h)).length
 | [],_=>by simp
 | t::ts,ih=>by
  have f:=ih t (zJ ..);have i:=zCP (ts:=ts) fun t a=>ih t (zE _ a)
  simp only[zY,qM,zV,j8,Nat.one_mul];omega
theorem zFU {lo hi:Bd}{t:List Str×List (Tr k)}(f: ∀ {lo hi:Bd} {t:Tr k},WF k lo hi t->2 ^ k<=(con k t).length)(w:Inn (WF k) lo hi t)(a:t.1≠[]):2 ^ (k+1)<=(t.2.flatMap (con k)).length:=by
 have hl:=w.2.2.len;have m:t.1.length≠0:=fun e=>a (zR e)
 have o:=zCP (ts:=t.2) fun x j=>by
  obtain⟨i,hi,rfl⟩:=jO j;exact f (KB.at w.2.2 (zK hi))
 have p:2*2 ^ k<=t.2.length*2 ^ k:=yN _ (by omega);rw[Nat.pow_succ];omega
theorem WF.many: ∀ {h:Nat} {lo hi:Bd} {t:Tr h},WF h lo hi t->2 ^ h<=(con h t).length
 | 0,_,_,t,w=>by
  have:List.length (t:Kvs)≠0:=fun e=>w.2.1 (zR e)
  show 1<=List.length (t:Kvs);omega
 | _+1,_,_,_,w=>zFU WF.many w.1 w.2.1
theorem WR.many: ∀ {h:Nat} {t:Tr h},WR h t->2 ^ h<=(con h t).length
 | 0,t,w=>by
  have:List.length (t:Kvs)≠0:=fun e=>w.2.1 (zR e)
  show 1<=List.length (t:Kvs);omega
 | _+1,_,w=>zFU WF.many w.1 w.2.1
theorem WR.low {t:Tr k}(w:WR k t)(f:(con k t).length<=1000000000):k<=29:=by
 have:=w.many;rcases Nat.lt_or_ge k 30 with a | a
 .omega
 .have i:2 ^ 30<=2 ^ k:=Nat.pow_le_pow_right (by decide) a;have j:(2:Nat) ^ 30=1073741824:=by decide
  omega
end Go.Bt
namespace Go.Eng.Sh
open Go.Nd (Ptr sumL leafOf Kvs)
open Go.Bt
variable {E:Ev}
theorem cbx:(∀A o,kC (.ptr A o)=[.ptr A o])/\kC .nP=[.nP]/\kC .nilFunc=[.nilFunc]/\(∀k z,kC (.int k z)=[.int k z])/\(∀l,kC (S l)=[S l])/\(∀ed K V,kC (edF ed K V)=[edF ed K V])/\(∀A o,aveq (.ptr A o) (.ptr A o)=true):=
 ⟨fun _ _=>rfl,rfl,rfl,fun _ _=>rfl,fun _=>rfl,fun ed _ _=>by cases ed<;>rfl,fun _ _=>by simp[aveq]⟩
theorem zM4 (s:Prs h F)(j:F.h.get v=some (.cells [.ptr k 0, .int .u64 (B:Nat), .map l, .nS] 242 1 false))(m:F.h.get l=some (.map [10] []))(o:h.next<=v)(p:h.next<=l)(ne:v≠l)(hX: ∀H',w H'->H'<h.next):
  Ch w h F k v l [] [] .nS [] B B:=
 ⟨s,j,m,trivial,zOv ..,fun H' q=>(zOt.1 q).elim,fun _ H=>by simp at H,o,p,ne,fun _ _ H=>by simp[jX]at H,zP _,by simp,by simp,by simp,fun _ H=>by simp at H,hX⟩
theorem zAY (M n:Nat)(hM:300000000<=M)(hn:300000000<=n){V:Nat}{T:List Ptr}{ed:Ed}(i:TI E F k v p I C H e B U)(hq: ∀s y,jX s e=some y->s<=B)(d7:e.length<=B)(hl:B<=500000000)
  (hr:xW E e C L T) (o2:E.dl.length<=800000000) (c3:L.length<=1000000000) (ho:ed.ok) (hb:edB F ed l V) (d8:e.length<=cp T):
  ∃(es:Nat) (H':AH),f82 (dy (M+2)) n [.ptr k 0,S ed.key,edF ed l V] F=some (.int .i64 (es:Nat),H')/\
   match ed.run L with
   | none=>es=5/\Prs F H'
   | some kv'=>es=0/\zJu E F H' k v p I U B (B+200) kv' T:=by
 obtain⟨H1,c,b1,p1,g1,m1,n1⟩:=box i.ok (.cells [.ptr k 0] 31 1 false);obtain⟨H2,B4,b2,dr,g2,m2,n2⟩:=box p1.ok (.cells [S ed.key] 9 1 false);obtain⟨H3,B3,b3,J,g3,m3,n3⟩:=box dr.ok (.cells [edF ed l V] 162 1 false);obtain⟨H4,f,b4,p4,g4,m4,n4⟩:=box J.ok (.map [10] []);obtain⟨H5,q,b5,N,g5,m5,n5⟩:=box p4.ok (.cells [.ptr k 0, .int .u64 (B:Nat), .map f, .nS] 242 1 false);obtain⟨H6,B6,b6,p6,g6,m6,n6⟩:=box N.ok (.cells [.nP] 240 1 false);obtain⟨m,e7,x7,z⟩:=Box.st (⟨_,g6⟩:Box H6 B6 .nP) p6.ok (x:= .ptr q 0) rfl;have i5:=p1.trans dr;have d9:=i5.trans J;have e0:=(d9.trans p4).trans N;have i6:=e0.trans p6;have Y:Prs F m:=i6.fresh z (fun a j=>by have:=e0.next;omega)
 have N1:=p1.next;have N2:=dr.next;have N3:=J.next;have N4:=p4.next;have N5:=N.next;have N6:=p6.next;have N7:=z.next
 have a5: ∀ {A:Nat} {o:AObj},H5.h.get A=some o->m.h.get A=some o:=fun {A o} hg=>by
  have:=N.ok.lt hg;rw[z.keep _ (by omega) (by omega)];exact zOs p6 N.ok hg
 have i7:=a5 g5;have i8:=a5 (zOs N p4.ok g4);have ch:Ch (XE E U) F m k q f [] [] .nS [] B B:=zM4 Y i7 i8 (by omega) (by omega) (by omega) (fun a j=>j.elim i.dg.lt (i.xl a));have c4:=i.prs Y;have i9:=i.prs d9;have k2:Box m c (.ptr k 0):=⟨_,a5 (zOs (p4.trans N) J.ok (zOs J dr.ok (zOs dr p1.ok g1)))⟩;have k3:Box m B3 (edF ed l V):=⟨_,a5 (zOs (p4.trans N) J.ok g3)⟩;have k4:Box m B4 (S ed.key):=⟨_,a5 (zOs (p4.trans N) J.ok (zOs J dr.ok g2))⟩;have l2:ld1 (.ptr c 0) H3=some (.ptr k 0):=by rw[jP (zOs J dr.ok (zOs dr p1.ok g1))];rfl
 have l6:ld1 (.ptr k 6) H3=some (.int .u64 (B:Nat)):=by rw[jP i9.gT];rfl
 have a6:ld1 (.ptr k 2) m=some (.int .i64 C.at_):=by rw[jP c4.gT];rfl
 have bs:uD [(0,1),(1,1),(2,1),(3,1)] [.nP, .int .u64 (0:Nat), .nM, .nS] [(0, .ptr k 0),(1, .int .u64 (B:Nat)),(2, .map f)]=some (.agg [.ptr k 0, .int .u64 (B:Nat), .map f, .nS]):=rfl;have e1:uD [(0,1),(1,1),(2,1),(3,1)] [.bool false, .nS, .nS, .nS] [(0, .bool true)]=some (.agg [.bool true, .nS, .nS, .nS]):=rfl;have e2: ¬(((0:Nat):Int)≠((0:Nat):Int)):=by omega
 have t50:(((5:Nat):Int)≠((0:Nat):Int)):=by omega
 rcases hr with⟨rfl,rfl,rfl⟩ | ⟨h,y,t,S0,hs,rn,wr,nd0,rfl,rfl⟩
 ·
  have f7:pZ.at_=((0:Nat):Int):=rfl;rw[f7]at a6;have wl:kJ m (.agg [.bool true, .nS, .nS, .nS]) (leafOf []):=⟨.nS, .nS, .nS,rfl, .inl (zOv ..), .inl (zOv ..), .inl (zOv ..)⟩;have e3:Lf none none ([]:Kvs):=⟨trivial,by simp⟩;obtain⟨u,H8,_,e8,p8,w8⟩:=zGE (M+1) n (by omega) Y.ok wl e3 (by decide) ho (hb.prs i.ok Y);obtain⟨lu,rfl,a7,c5⟩:=w8.1.cells;obtain⟨H9,B8,b9,p9,g9,m9,n9⟩:=box p8.ok (.cells [.bool false, .nS, .nS, .nS] 119 1 false);obtain⟨Z,j0,c6,c7,j1⟩:=kD p9.ok g9 (l':=lu) a7 c5;have d4:stN 4 (.ptr B8 0) (.agg lu) H9=some (jT,Z):=j0;have N8:=p8.next;have N9:=p9.next;have j2:=c7.next
  have a8:Prs m Z:=(p8.trans p9).fresh c7 (fun a j=>by omega);have f9:=ch.step a8
  cases root:ed.run []with
  | none=>
   have c8:edL ed []=(nd0,5):=by simp only[edL,root]
   rw[c8]at e8;refine⟨5,Z, ?_,rfl,Y.trans a8⟩;simp(maxSteps:=999999)(disch:=omega) only[f82,eZ,b1,b2,b3,cbx,l2,l6,mkM,b4,bs,b5,b6,e7,k2.ld,a6,k3.ld,e1,e8,jR,nth,b9,d4,t50,ne_eq,jH]
  | some kv'=>
   have c8:edL ed []=(leafOf kv',0):=by simp only[edL,root]
   rw[c8]at e8 w8;obtain⟨j3,j4⟩:=Ed.leaf (lo:=none) (hi:=none) e3 trivial trivial ho root;have c9:kv'≠[]:=by
    cases ed with
    | put M0 K=>simp only[Ed.run,zC]at root;subst root;simp[Nd.putP]
    | del M0=>simp[Ed.run,Nd.lookP]at root
   have g0:xO (XE E U) Z .nS (.agg lu) (leafOf kv'):=⟨(w8.1.prs p9).stp c7 (fun a j es=>by
    have:=w8.1.lt j;omega),fun a j=>⟨fun hg=>(zOt.1 hg).elim,fun hx=>by have:=w8.2 a j;have:=hx.elim i.dg.lt (i.xl a);omega⟩⟩
   obtain⟨a9,c0,g7,j5⟩:=zHp (dy (M+2)) n f9 g0 (by omega);have hQ:Qf E e ([]++[(B+1,leafOf kv')]) (pp (B+1))=some (leafOf kv'):=by rw[UW];simp[jX]
   obtain⟨Q,j6,dn⟩:=ZO (dy (M+2)) n (rp:=pp (B+1)) (h:=0) (t:=kv') (S:=[]) (Fr:=[pp (B+1)]) (R:=[]) (T:=[]) i hq g7 (by simp) (by omega) (by simp;omega) d7 (by simp;omega) hQ ⟨rfl,rfl⟩ ⟨j3,c9,by simp only[hU]at j4;omega⟩ (by simp) (by simp) (by
    intro d hp;simp only[yB]at hp;subst hp;exact⟨_,rfl,by omega⟩) (by simp) (by simp) (by simp) (by simp) d8 (by simp)
   refine⟨0,Q, ?_,rfl,dn.mono (by omega) (by omega)⟩;have k6:ld1 (.ptr B6 0) Z=some (.ptr q 0):=(x7.mono z.ok a8 (fun x=>x)).ld;have j7:ld1 (.ptr B6 0) a9=some (.ptr q 0):=by
    refine((x7.mono z.ok a8 (fun x=>x)).mono a8.ok j5.1 (fun hc=> ?_)).ld;rcases hc with es | es | es
    .omega
    .omega
    .exact(zOt.1 es).elim
   simp(maxSteps:=999999)(disch:=omega) only[f82,eZ,b1,b2,b3,cbx,l2,l6,mkM,b4,bs,b5,b6,e7,k2.ld,a6,k3.ld,e1,e8,jR,nth,b9,d4,e2,k6,bF c6 a7,c0,kY j7 (cbx.2.2.2.2.2.2 _ _),j6]
 ·
  have e4: ¬C.at_=((0:Nat):Int):=by have:=zMk hs;omega
  have hh:=wr.low c3;obtain⟨H8,O,b8,p8,g8,m8,n8⟩:=box Y.ok (.cells [.int .i64 (0:Nat)] 3 1 false);obtain⟨H9,e9,x9,s9⟩:=Box.st (⟨_,g8⟩:Box H8 O (.int .i64 (0:Nat))) p8.ok (x:= .int .i64 (0:Nat)) rfl;obtain⟨Z,W,e5,b0,c6,o3,j1⟩:=box s9.ok (.cells [.nilFunc] 121 1 false);obtain⟨a9,c0,e6,a3⟩:=Box.st (⟨_,c6⟩:Box Z W .nilFunc) b0.ok (x:=zE7 O c B3 B4 W B6) rfl;obtain⟨Q,B8,f1,b7,j8,o4,j9⟩:=box a3.ok (.cells [.bool false, .nS, .nS, .nS] 119 1 false);have N8:=p8.next;have N9:=s9.next;have j2:=b0.next;have o5:=a3.next;have o6:=b7.next
  have k0:Prs m H9:=p8.fresh s9 (fun a j=>by omega);have d0:Prs m a9:=(k0.trans b0).fresh a3 (fun a j=>by omega);have a0:Prs m Q:=d0.trans b7;have h1:=ch.step a0;have n0:=c4.prs a0;have h2:=c4.prs d0;have k1:Box Q O (.int .i64 (0:Nat)):=((x9.mono s9.ok b0 (fun x=>x)).mono b0.ok a3 (by omega)).mono a3.ok b7 (fun x=>x);have h3:Box Q W (zE7 O c B3 B4 W B6):=e6.mono a3.ok b7 (fun x=>x);have k6:Box Q B6 (.ptr q 0):=x7.mono z.ok a0 (fun x=>x);have cl:Cl F Q k q l V ed O c B3 B4 W B6 0:=⟨k1,k2.mono z.ok a0 (fun x=>x),k3.mono z.ok a0 (fun x=>x),k4.mono z.ok a0 (fun x=>x),h3,k6,hb,by omega,by omega,by omega,by omega,by omega,by omega⟩;have h4: ∀L∈H,∀a,vU L.2 a->a<F.next:=fun L c3 a j=>by
   obtain⟨o7,k5⟩:=i.pq.mem L c3;exact k5.lt j
  have c9:0<h->y.keys≠[]:=fun h0=>by
   cases h with
   | zero=>omega
   | succ h=>rw[rn.2.1];exact wr.2.1
  obtain⟨u,es,g',c1,k7,a1,⟨lu,rfl,a7,c5⟩,a2⟩:=zLV i h4 i.ds hq ho h M (M+1) (by omega) (by omega) h1 cl hs rn wr.gen wr.sz c9 (by cases h<;>trivial) (by cases h<;>trivial) (by omega) (by omega) (by simp;omega);have k8: ¬(chg q f .nS B8\/B8=O):=fun hc=>by
   rcases hc with(es | es | es) | es
   .omega
   .omega
   .exact(zOt.1 es).elim
   .omega
  have c2:c1.h.get B8=some (.cells [.bool false, .nS, .nS, .nS] 119 1 false):=by rw[a1.keep _ j9 k8];exact j8
  have h5:Box c1 B6 (.ptr q 0):=k6.mono b7.ok a1 (fun hc=>by
   rcases hc with(es | es | es) | es
   .omega
   .omega
   .exact(zOt.1 es).elim
   .omega)
  obtain⟨d1,k9,l0,a4,o8⟩:=kD a1.ok c2 (l':=lu) a7 c5;have d5:stN 4 (.ptr B8 0) (.agg lu) c1=some (jT,d1):=k9;have h6:ld1 (.ptr B6 0) d1=some (.ptr q 0):=(h5.mono a1.ok a4 (by omega)).ld;have f2:ld1 (.ptr c 0) a9=some (.ptr k 0):=(k2.mono z.ok d0 (fun x=>x)).ld;have lr:ldN 3 (.ptr k 2) a9=some (.agg (jV C)):=by rw[jU h2.gT];rfl
  have d6:=e6.ld;have f3:callV [(127,f127 (dy (M+2)) n),(126,f126 (dy (M+2)) n),(131,f131 (dy (M+2)) n)] (dy (M+2)) (zE7 O c B3 B4 W B6) [.agg (jV C)] Q=some (.tuple [.agg lu, .int .i64 ((es:Nat):Int)],c1):=k7;have f4:(.func 128 [] [.ptr O 0, .ptr c 0, .ptr B3 0, .ptr B4 0, .ptr W 0, .ptr B6 0]:AV)=zE7 O c B3 B4 W B6:=rfl
  cases root:ed.run (con h t)with
  | none=>
   rw[root]at a2;have a2:es=5:=a2;subst a2;refine⟨5,d1, ?_,rfl,⟨a4.ok,by have:=a1.next;have:=a4.next;omega,fun a j _=> ?_⟩⟩
   .simp(maxSteps:=999999)(disch:=omega) only[f82,eZ,b1,b2,b3,cbx,l2,l6,mkM,b4,bs,b5,b6,e7,k2.ld,a6,e4,b8,e9,e5,f4,c0,d6,f2,lr,f1,f3,jR,nth,d5,t50,ne_eq,jH]
   .have:=a1.next
    rw[a4.keep a (by omega) (by omega),a1.keep a (by omega) (fun hc=>by
     rcases hc with(es | es | es) | es
     .omega
     .omega
     .exact(zOt.1 es).elim
     .omega),a0.keep a (by omega) (fun x=>x),Y.keep a j (fun x=>x)]
  | some kv'=>
   rw[root]at a2;obtain⟨rfl,n7,f',d2,m7,d',o9,S',G,R,Fr,t',h7,o0,h8,h9,i0,f8,o1,f5,hG,l1,p0,p7,l3,d3,l4,l5,more,bg⟩:=a2;have i1:=h7.stb c2 a4 (by omega) (by omega);have i2:=h8.stb c2 a4;rw[yA]at f5;subst f5;have l7:(C::S0).Nodup:=nd0;have l8:(d2++R).Nodup:=d3.nodup_iff.1 l7;have i3: ∀d∈C::S0,∃y,Qf E e [] d=some y:=fun d hp=>by
    rcases zO.1 hp with rfl | hp
    .exact⟨y,hs⟩
    .exact wE.here rn d hp
   have f6: ∀d∈d2++R,∃y,Qf E e [] d=some y:=fun d hp=>i3 d (d3.mem_iff.2 hp)
   have i4: ∀d∈d2,∃y,Qf E e [] d=some y:=fun d hp=>f6 d (qX _ hp)
   obtain⟨l9,m0,dn⟩:=zIT (dy (M+2)) n (by omega) i hq i1 i4 (by omega) (by omega) d7 i2 h9 i0 l3 l8 l5 l4 (fun d hp=>f6 d (qY _ hp)) (by omega) d3 (by omega) d8 l1;rw[f8]at dn;refine⟨0,l9, ?_,rfl,dn.mono (by omega) (by omega)⟩;simp(maxSteps:=999999)(disch:=omega) only[f82,eZ,b1,b2,b3,cbx,l2,l6,mkM,b4,bs,b5,b6,e7,k2.ld,a6,e4,b8,e9,e5,f4,c0,d6,f2,lr,f1,f3,jR,nth,d5,e2,h6,bF l0 a7,m0]
open Go.Nd (mayK putP delP lookP)
def fS (d c:AV)(E:Ev)(H:AH)(f M L:Nat)(W:Nat->Prop)(kv:Kvs)(T:List Ptr):Prop:= ∃h root es q a,isCell c=true/\TI E H f M d c root es q a h/\(∀s i,jX s q=some i->s<=a)/\(q.length<=a/\q.length<=cp T)/\a<=L/\E.dl.length<=L/\xW E q root kv T/\ ∀B,W B↔B=f\/B=M\/Blk h B
def aS (d c:AV)(E:Ev)(H:AH)(f M L:Nat)(W:Nat->Prop)(root:Ptr)(q:PN)(kv:Kvs)(T:List Ptr):Prop:= ∃h es a,isCell c=true/\TI E H f M d c root es q a h/\(∀s i,jX s q=some i->s<=a)/\(q.length<=a/\q.length<=cp T)/\a<=L/\E.dl.length<=L/\xW E q root kv T/\ ∀B,W B↔B=f\/B=M\/Blk h B
theorem aS.d {d c:AV}{E:Ev}{H:AH}{a M L:Nat}{W:Nat->Prop}{root:Ptr}{q:PN}{kv:Kvs}{T:List Ptr}(h:aS d c E H a M L W root q kv T):fS d c E H a M L W kv T:=by
 obtain⟨i,es,f,h⟩:=h;exact⟨i,root,es,q,f,h⟩
theorem fS.x {E:Ev}{a:Nat}(d:fS p I E h a k v w L i): ∃root q,aS p I E h a k v w root q L i:=by
 obtain⟨c,root,es,q,f,d⟩:=d;exact⟨root,q,c,es,f,d⟩
theorem fS.prs {d c:AV}{H H':AH}{a M L:Nat}{W:Nat->Prop}{kv:Kvs}{T:List Ptr}(h:fS d c E H a M L W kv T)(s:Prs H H'):fS d c E H' a M L W kv T:=by
 obtain⟨i,root,es,q,f,j,m,o⟩:=h;exact⟨i,root,es,q,f,j,m.prs s,o⟩
theorem fS.up (c:fS p I E h k v l w L i)(hl:l<=B):fS p I E h k v B w L i:=by
 obtain⟨j,root,es,q,a,m,o,d,s,u,H,h6,t⟩:=c;exact⟨j,root,es,q,a,m,o,d,s,by omega,by omega,h6,t⟩
theorem fS.okH (d:fS p I E h k v l w L i):h.ok:=by
 obtain⟨j,root,es,q,c,m,f,_⟩:=d;exact f.ok
theorem fS.lt {d c:AV}{H:AH}{f M L:Nat}{W:Nat->Prop}{kv:Kvs}{T:List Ptr}(h:fS d c E H f M L W kv T): ∀B,W B->B<H.next:=by
 obtain⟨o,root,es,q,m,p,a,_,_,_,_,_,i⟩:=h;intro B j;rcases(i B).1 j with rfl | rfl | e
 .exact a.ok.lt a.gT
 .exact a.ok.lt a.gM
 .exact a.dg.lt e
def AdT (W:Nat->Prop)(H:AH)(a:Nat->Prop)(H':AH):Prop:=Stp W H H'/\ ∀B,a B->W B\/H.next<=B
theorem AdT.prs (s:Prs h F):AdT w h w F:=⟨s.mono fun _ _ x=>x.elim,fun _ W=> .inl W⟩
theorem AdT.trans {i:Nat->Prop}{m:AH}(W:AdT w h f F)(k:AdT f F i m):AdT w h i m:=by
 refine⟨Stp.thr W.1 k.1 fun B a=> ?_,fun B a=> ?_⟩
 .rcases W.2 B a with e | e
  .exact .inr e
  .exact .inl e
 .have:=W.1.next
  rcases k.2 B a with e | e
  .exact W.2 B e
  .exact .inr (by omega)
structure Chd (E E':Ev)(T T':List Ptr):Prop where
 nb:E'.nb=E.nb
 ws:E'.ws=E.ws
 xx:E'.x=E.x
 pm:(dsk T'++E'.dl).Perm (dsk T++E.dl)
theorem Chd.refl (E:Ev)(T:List Ptr):Chd E E T T:=⟨rfl,rfl,rfl,List.Perm.refl _⟩
theorem Chd.trans {E a f:Ev}{T i j:List Ptr}(h:Chd E a T i)(k:Chd a f i j):Chd E f T j:=⟨k.nb.trans h.nb,k.ws.trans h.ws,k.xx.trans h.xx,k.pm.trans h.pm⟩
theorem zJu.treeD {L:Nat}{kv:Kvs}(H0:zJu E h F k v p I U l B kv i)(u:isCell I=true)(f: ∀M,w M↔M=k\/M=v\/Blk U M)(hL:B<=L)(hd:E.dl.length+100<=L):
  ∃low s d,fS p I low F k v L s kv d/\AdT w h s F/\Chd E low i d:=by
 obtain⟨gl,root,es,q,t,m,d,a,y,z,C,H',h6,N,G,top,J⟩:=H0;have K:=zD4 E gl;refine⟨E.drop gl,fun M=>M=k\/M=v\/Blk m M,d,⟨m,root,es,q,t,u,a,C,H',by omega,by omega,G,fun M=>Iff.rfl⟩,⟨y.mono fun M _ j=>(f M).2 j,fun M j=> ?_⟩,⟨rfl,rfl,rfl,top⟩⟩;rcases j with e | e | e
 .exact .inl ((f M).2 (.inl e))
 .exact .inl ((f M).2 (.inr (.inl e)))
 .rcases z M e with x | x
  .exact .inl ((f M).2 (.inr (.inr x)))
  .exact .inr x
def Z6 (k v:Str):Bool:=mayK k&&decide (v.length<=200)
theorem zKY (m n:Nat)(hm:300000000<=m)(Q:300000000<=n){L:Nat}{kv:Kvs}{k v:Str}(t:fS p I E h l B L w kv i)(hL:L<=500000000)(K:kv.length<=1000000000):
  ∃H' f H a,f38 (dy (m+2)) n [.ptr l 0,S k,S v] h=some (.int .i64 (if Z6 k v then 0 else 1:Nat),H')/\fS p I f H' l B (L+200) H (if Z6 k v then putP k v kv else kv) a/\AdT w h H H'/\Chd E f i a:=by
 obtain⟨dr,root,es,q,a0,U,C,V,F,h4,a4,Y,Z⟩:=id t;obtain⟨H1,A4,b1,d,g1,m1,n1⟩:=box C.ok (.cells [S k] 9 1 false);obtain⟨j,G,b2,c,g2,m2,n2⟩:=box d.ok (.cells [S v] 9 1 false);have o:=d.trans c;have x:=C.prs o;have x4:Box j A4 (S k):=⟨_,zOs c d.ok g1⟩;have s:Box j G (S v):=⟨_,g2⟩;have y:=QG (dy (m+2)) n x;by_cases hp:Z6 k v=true
 .obtain⟨z,N⟩:mayK k=true/\v.length<=200:=by simpa[Z6]using hp
  obtain⟨e,J,e3,u⟩:=zAY m n hm Q (ed:= .put k v) x V F.1 (by omega) Y (by omega) K ⟨z,N⟩ ⟨x4,s⟩ F.2;simp only[Ed.run]at u;obtain⟨rfl,dn⟩:=u;obtain⟨f,H,a,d1,d2,d3⟩:=dn.treeD U Z (L:=L+200) (by omega) (by omega);simp only[Nd.mayK,zF,zQ]at z;refine⟨J,f,H,a, ?_,by rw[if_pos hp];exact d1,(AdT.prs o).trans d2,d3⟩;have a1: ¬(k.length:Int)< ((1:Nat):Int):=by omega
  have a2: ¬((40:Nat):Int)< (k.length:Int):=by omega
  have a3: ¬((200:Nat):Int)< (v.length:Int):=by omega
  have O:f82 (dy (m+2)) n [.ptr l 0,S k, .func 88 [] [.ptr A4 0, .ptr G 0]] j=some (.int .i64 (0:Nat),J):=e3;simp(maxSteps:=999999)(disch:=omega) only[f38,eZ,cbx,b1,b2,y,x4.ld,s.ld,a1,a2,a3,O,hp]
 .refine⟨j,E,w,i, ?_,by rw[if_neg hp];exact(t.prs o).up (by omega),AdT.prs o,Chd.refl E i⟩;have hx:(k.length:Int)< ((1:Nat):Int)\/((40:Nat):Int)< (k.length:Int)\/((200:Nat):Int)< (v.length:Int):=by
   simp only[Z6,Nd.mayK,zF,zQ]at hp;omega
  simp(maxSteps:=999999)(disch:=omega) only[f38,eZ,cbx,b1,b2,y,x4.ld,s.ld,hp];rw[if_pos (by simpa[or_assoc]using hx)];rfl
def ZP (k:Str)(kv:Kvs):Nat:=if mayK k then(if(lookP k kv).isSome then 0 else 5)else 1
theorem zLX (m n:Nat)(hm:300000000<=m)(K:300000000<=n){L:Nat}{kv:Kvs}{k:Str}(t:fS p I E h v l L w kv i)(hL:L<=500000000)(G:kv.length<=1000000000):
  ∃H' o d s,f29 (dy (m+2)) n [.ptr v 0,S k] h=some (.int .i64 (ZP k kv:Nat),H')/\fS p I o H' v l (L+200) d (if ZP k kv=0 then delP k kv else kv) s/\AdT w h d H'/\Chd E o i s:=by
 obtain⟨dr,root,es,q,a0,N,z,O,C,h4,a3,Q,U⟩:=id t;obtain⟨M,A4,b1,f,Y,m1,n1⟩:=box z.ok (.cells [S k] 9 1 false);have x:=z.prs f;have x4:Box M A4 (S k):=⟨_,Y⟩;have y:=QG (dy (m+2)) n x;by_cases hp:mayK k=true
 .obtain⟨e,u,Z,j⟩:=zAY m n hm K (V:=0) (ed:= .del k) x O C.1 (by omega) Q (by omega) G hp x4 C.2;have c:=hp;simp only[Nd.mayK,zF,zQ]at c;have a1: ¬(k.length:Int)< ((1:Nat):Int):=by omega
  have a2: ¬((40:Nat):Int)< (k.length:Int):=by omega
  have J:f82 (dy (m+2)) n [.ptr v 0,S k, .func 83 [] [.ptr A4 0]] M=some (.int .i64 e,u):=Z;have run:f29 (dy (m+2)) n [.ptr v 0,S k] h=some (.int .i64 e,u):=by
   simp(maxSteps:=999999)(disch:=omega) only[f29,eZ,cbx,b1,y,x4.ld,a1,a2,J,hp]
  cases hr:(Ed.del k).run kv with
  | none=>
   rw[hr]at j;obtain⟨rfl,F⟩:=j;have hl:(lookP k kv).isSome=false:=by
    simp only[Ed.run]at hr;split at hr
    .cases hr
    .rename_i H;simpa using H
   have a:ZP k kv=5:=by simp only[ZP,hp,if_true,hl,zM,qE]
   refine⟨u,E,w,i,by rw[a];exact run,by rw[a];exact(t.prs (f.trans F)).up (by omega),AdT.prs (f.trans F),Chd.refl E i⟩
  | some kv'=>
   rw[hr]at j;obtain⟨rfl,dn⟩:=j;obtain⟨o,d,s,d1,d2,d3⟩:=dn.treeD N U (L:=L+200) (by omega) (by omega);have hl:(lookP k kv).isSome=true/\delP k kv=kv':=by
    simp only[Ed.run]at hr;split at hr
    .rename_i H;exact⟨H,by simpa using hr⟩
    .cases hr
   have a:ZP k kv=0:=by simp only[ZP,hp,if_true,hl.1]
   refine⟨u,o,d,s,by rw[a];exact run,by rw[a,if_pos rfl,hl.2];exact d1,(AdT.prs f).trans d2,d3⟩
 .have a:ZP k kv=1:=by simp only[ZP,hp,zM,qE]
  refine⟨M,E,w,i, ?_,by rw[a];exact(t.prs f).up (by omega),AdT.prs f,Chd.refl E i⟩;rw[a];have hx:(k.length:Int)< ((1:Nat):Int)\/((40:Nat):Int)< (k.length:Int):=by
   simp only[Nd.mayK,zF,zQ]at hp;omega
  simp(maxSteps:=999999)(disch:=omega) only[f29,eZ,cbx,b1,y,x4.ld];rw[if_pos (by simpa using hx)];rfl
end Go.Eng.Sh
end
section
namespace Go.Eng
def Stk (k e:Nat)(H:AH)(v:AV)(n:Nat)(l:List AV):Prop:=
 l.length=n*k/\((v= .nS/\n=0)\/ ∃A cc cells g r,v= .slice A 0 n cc/\A<H.next/\H.h.get A=some (.cells cells e k g)/\cells.length=r*k/\n<=r/\cells.take (n*k)=l/\(cc=2*r\/(cc=1/\g=true)))
theorem Stk.row (e:Stk k v h p l t):Rw k h p l t:=by
 obtain⟨a,⟨rfl,rfl⟩ | ⟨A,cc,cells,g,r,rfl,f,i,hl,j,m,_⟩⟩:=e
 .exact⟨a, .inl ⟨rfl,rfl⟩⟩
 .have:=yN k j;exact⟨a, .inr (.inr ⟨A,0,cc,cells,v,k,g,rfl,i,f,by omega,by rw[y9];exact m⟩)⟩
theorem Stk.mono (e:Stk k v h p l t)(s:Stp w h F)(i: ∀A,Blk p A-> ¬w A):Stk k v F p l t:=by
 obtain⟨a,j | ⟨A,cc,cells,g,r,rfl,f,m,o⟩⟩:=e
 .exact⟨a, .inl j⟩
 .exact⟨a, .inr ⟨A,cc,cells,g,r,rfl,qJ f s.next,by rw[s.keep A f (i A (zOm.2 rfl))];exact m,o⟩⟩
theorem Stk.lt (e:Stk k v h p l t)(a:Blk p B):B<h.next:=by
 obtain⟨i,⟨rfl,rfl⟩ | ⟨A,cc,cells,g,r,rfl,f,j,m⟩⟩:=e
 .exact(zOt.1 a).elim
 .rw[zOm.1 a];exact f
theorem Stk.isCell {k e n:Nat}{H:AH}{v:AV}{l:List AV}(h:Stk k e H v n l):isCell v=true:=h.row.isCell
theorem Stk.room (a:0<k)(hl:t.length=l*k)(f:v=2*l\/(v=1/\V=true)):kP t V k 0 v k=l:=by
 rcases f with rfl | ⟨rfl,rfl⟩
 .simp only[kP,show((2*l) % 2).beq 0=true by rw[jB];rfl,zU,yQ l (show 0<2 by omega)]
 .simp only[kP,show((1 % 2).beq 0)=false from rfl,yH,yK,show Nat.beq 0 (1 / 2*k)=true from by simp,qO,zU,kE,hl,jC];exact Nat.mul_div_cancel _ a
theorem Stk.cut (n:Stk k v h p l t)(m:0<k)(hi:B<=l)(κ:IntKind):
  ∃r,vD k p none (some (.int κ (B:Nat))) none h=some r/\Stk k v h r B (t.take (B*k))/\ ∀e,Blk r e->Blk p e:=by
 have f:=kO κ (z:=(B:Int)) (by omega);simp only[yD]at f;have hb:Nat.blt 0 k=true:=by rw[qD];exact m
 have H:B*k<=l*k:=yN _ hi;obtain⟨u,⟨rfl,rfl⟩ | ⟨A,cc,cells,g,r,rfl,q,j,hl,C,x,s⟩⟩:=n
 .obtain rfl:B=0:=by omega
  exact⟨.nS,by simp only[vD,kU,f];simp,⟨by simp, .inl ⟨rfl,rfl⟩⟩,fun e a=>a⟩
 .have b1:Nat.ble B r=true:=by rw[qT];omega
  have b2:Nat.ble 0 B=true:=by rw[qT];omega
  have hr:=Stk.room m hl s;have o:(t.take (B*k)).length=B*k:=by rw[qC,u];omega
  have i:cells.take (B*k)=t.take (B*k):=by rw[<-x,List.take_take,Nat.min_eq_left H]
  rcases s with rfl | ⟨rfl,rfl⟩
  .refine⟨.slice A 0 B (2*r), ?_,⟨o, .inr ⟨A,2*r,cells,g,r,rfl,q,j,hl,by omega,i, .inl rfl⟩⟩,fun e a=>by rw[zOm.1 a];exact zOm.2 rfl⟩;have y:(2*r) / 2=r:=yQ r (show 0<2 by omega);simp only[vD,kU,f,j,hb,zU,YJ,hr,Option.getD_none,yL,b1,b2,qO,show((2*r) % 2).beq 0=true by rw[jB];rfl,kG,Nat.zero_mul,Nat.add_zero,jC,y]
   cases Nat.beq r 0<;>rfl
  .refine⟨.slice A 0 B 1, ?_,⟨o, .inr ⟨A,1,cells,true,r,rfl,q,j,hl,by omega,i, .inr ⟨rfl,rfl⟩⟩⟩,fun e a=>by rw[zOm.1 a];exact zOm.2 rfl⟩;simp only[vD,kU,f,j,hb,zU,YJ,hr,Option.getD_none,yL,b1,b2,qO,show((1 % 2).beq 0)=false from rfl,yH,kG,show Nat.beq 0 0=true from rfl]
theorem Stk.app {bytes m:Nat}{new:List AV}(j:h.ok)(q:0<k)(e:Stk k v h p l t)(L:srcOf k I h=some (m,new))(hm:new.length=m*k)(M:jS new=true)(Y:m=1)(x:l+m<=1000000000)(hb:bytes<=1000):
  ∃a H',apP v k bytes p I h=some (a,H')/\Stk k v H' a (l+m) (t++new)/\Stp (Blk p) h H'/\ ∀B,Blk a B->Blk p B\/h.next<=B:=by
 suffices hx: ∃a H',app1 v k bytes m new p h=some (a,H')/\Stk k v H' a (l+m) (t++new)/\Stp (Blk p) h H'/\ ∀B,Blk a B->Blk p B\/h.next<=B by
  obtain⟨a,H',N,O⟩:=hx;exact⟨a,H',by simp only[apP,L,M,zU,N],O⟩
 have own: ∀ {H':AH},Own k v H' (.slice h.next 0 (l+m) 1) (l+m) (t++new)->Stk k v H' (.slice h.next 0 (l+m) 1) (l+m) (t++new):=fun {H'} Q=>by
  obtain⟨F,⟨q1,_⟩ | ⟨A,q1,q2,q3⟩⟩:=Q
  .cases q1
  .exact⟨F, .inr ⟨A,1,_,true,l+m,q1,q2,q3,F,zP _,zZ (by omega), .inr ⟨rfl,rfl⟩⟩⟩
 have Z:=e;obtain⟨f,⟨rfl,rfl⟩ | ⟨A,cc,cells,g,r,rfl,o,y,hl,J,z,u⟩⟩:=e
 .obtain rfl:t=[]:=zR (by simpa using f);obtain⟨H',S,T,U,e4⟩:=J0 (k:=k) (e:=v) (bytes:=bytes) (new:=new) (n:=0) (m:=m) j q (zOv k v h) hm (by omega) x hb;exact⟨_,H',S,own T,U,fun B i=> .inr (by rw[zOm.1 i];exact zP _)⟩
 .have hr:=Stk.room q hl u;have W:=yN k J;by_cases n:l+m<=r
  .have b1:Nat.ble (l+m) r=true:=by rw[qT];exact n
   have V:Nat.blt 0 k=true:=by rw[qD];exact q
   have G:=yN k n;rw[j8]at G;have H:setAt cells (0+l*k) new=some (cells.take (l*k)++new++cells.drop (l*k+m*k)):=by rw[xH (by omega),hm];simp only[j7]
   have s:(cells.take (l*k)).length=l*k:=by rw[z,f]
   refine⟨.slice A 0 (l+m) cc,h.put A (.cells (cells.take (l*k)++new++cells.drop (l*k+m*k)) v k g), ?_,⟨by simp[f,hm,j8], .inr ⟨A,cc,_,g,r,rfl,o,by rw[zOl,if_pos rfl], ?_,n, ?_,u⟩⟩,(zOp j).put o _ (.inr (zOm.2 rfl)),fun B i=> .inl (by rw[zOm.1 i];exact zOm.2 rfl)⟩
   .simp only[app1,y,zEl,hr,b1,zU,V,H,zBf,wM,kG]
   .simp only[zV,s,hm,qI];omega
   .rw[z,List.take_append_of_le_length (by simp[f,hm,j8]),zZ (by simp[f,hm,j8])]
  .have b1:Nat.ble (l+m) r=false:=by rw[y7];intro v;rw[qT]at v;omega
   have C:uP cells 0 (l*k)=some t:=by rw[kV _ _ _ (.inr (by omega)),y9,z]
   rcases u with rfl | ⟨rfl,rfl⟩
   .refine⟨.slice h.next 0 (l+m) 1,h.push (.cells (t++new) v k true), ?_,own ⟨by simp[f,hm,j8], .inr ⟨h.next,rfl,Nat.lt_succ_self _,zOh _ _⟩⟩,(zOp j).push _,fun B i=> .inr (by rw[zOm.1 i];exact zP _)⟩
    simp only[app1,y,zEl,hr,b1,yH,show((2*r) % 2).beq 0=true by rw[jB];rfl,zU,C,vO,dT x hb,cH,cY j,kG]
   .obtain rfl:l=r:=by omega
    have s:Nat.beq (0+l*k) (aC cells 0)=true:=by rw[kE,hl,j7,yK]
    have K:(h.put A .dead).ok:=j.put o _;refine⟨.slice h.next 0 (l+m) 1,(h.put A .dead).push (.cells (t++new) v k true), ?_,own ⟨by simp[f,hm,j8], .inr ⟨h.next,rfl,Nat.lt_succ_self _,zOh (h.put A .dead) _⟩⟩,((zOp j).put o _ (.inr (zOm.2 rfl))).push _,fun B i=> .inr (by rw[zOm.1 i];exact zP _)⟩
    simp only[app1,y,zEl,hr,b1,yH,show((1 % 2).beq 0)=false from rfl,s,yK,show Nat.beq 0 (1 / 2*k)=true from by simp,qO,zU,wM,C,vO,
     dT x hb,cH,cY K,kG,zOj]
end Go.Eng
end
section
namespace Go.Eng.Sh
open Go.Nd (Ptr sumL)
end Go.Eng.Sh
end
section
namespace Go.Eng
end Go.Eng
namespace Go.Eng.Sh
open Go.Nd (Ptr sumL)
open Go.Nd (Str leafOf Kvs Srt mayK putP delP lookP)
open Go.Bt
variable {E:Ev}
def zN7 (key:Str)(l:Kvs):Option (Str×Str):=l.find? fun p=> !ltS p.1 key
theorem X7 {key:Str} : ∀ {l:Kvs},Srt l->zN7 key l=l[Nd.whereN (leafOf l) key]?
 | [],_=>rfl
 | (a,b)::l,h=>by
  rw[Nd.where_cons h];simp only[zN7,List.find?_cons]
  cases hb:ltS a key with
  | true=>
   simp only[Bool.not_true,if_true,yV];exact X7 h.2
  | false=>simp
def Item (E:Ev)(q:PN)(p:Ptr)(c:Kvs)(w:Nat):Prop:= ∃a h,∃t:Bt.Tr h,∃S lo hi,Qf E q [] p=some a/\wE (Qf E q []) h a t S/\Gen h lo hi t/\(0<h->a.keys≠[])/\wB h t<=500/\c=con h t/\w=1+S.length
def UY (E:Ev)(q:PN):List Ptr->Kvs->Nat->Prop
 | [],c,w=>c=[]/\w=0
 | p::ps,c,w=> ∃c1 c2 a f,Item E q p c1 a/\UY E q ps c2 f/\c=c1++c2/\w=a+f
theorem UY.app {q:PN}{i:List Ptr}{c':Kvs}{f:Nat}(j:UY E q i c' f): ∀ {h:List Ptr} {c:Kvs} {w:Nat},UY E q h c w->UY E q (h++i) (c++c') (w+f)
 | [],_,_,⟨e1,e2⟩=>by subst e1;subst e2;simpa using j
 | p::h,_,_,⟨c1,c2,w1,w2,a,b,e1,e2⟩=>⟨c1,c2++c',w1,w2+f,a,UY.app j b,by rw[e1];simp,by omega⟩
theorem UY.len {q:PN} : ∀ {a:List Ptr} {c:Kvs} {w:Nat},UY E q a c w->a.length<=w
 | [],_,_,_=>by simp
 | p::a,_,_,⟨c1,c2,w1,w2,⟨_,_,_,_,_,_,_,_,_,_,_,_,e⟩,b,e1,e2⟩=>by
  have:=UY.len b;simp only[zY];omega
theorem zDM {b k':UInt8}{x f:Str}(hb:k<=2147483647)(i:v<=2147483647)(e:Bk.sealB b k x=Bk.sealB k' v f):k=v:=by
 obtain⟨_,q2,_,_⟩:=Bk.seal_parts (kind:=b) (birth:=k) (body:=x);obtain⟨_,h,_,_⟩:=Bk.seal_parts (kind:=k') (birth:=v) (body:=f);rw[e,h]at q2;have hl:=congrArg Nd.bee q2;rw[Nd.bee_be,Nd.bee_be,Nat.mod_eq_of_lt (by omega),Nat.mod_eq_of_lt (by omega)]at hl;exact hl.symm
end Go.Eng.Sh
end
section
namespace Go.Eng
end Go.Eng
namespace Go.Eng.Sh
open Go.Nd (Ptr sumL leafOf Kvs Srt mayK putP delP lookP)
open Go.Bt
variable {E:Ev}
theorem d9: ∀l:List Ptr,(l.flatMap jV).length=l.length*3
 | []=>rfl
 | p::l=>by
  rw[qM,zV,d9 l,zY];show 3+l.length*3=_;omega
end Go.Eng.Sh
end
section
namespace Go.Eng
theorem zJa {κ:IntKind}{m:Int} : ∀ {a:AV},aveq (.int κ m) a=true->a= .int κ m:=by
 intro a h
 cases a<;>simp only[aveq]at h
 case int k z=>
  rw[zF]at h;have f:=h.1;have i:=h.2;rw[xU]at f;rw[xV]at i;simp only[zQ,beq_iff_eq]at f i;subst f;subst i;rfl
 all_goals cases h
theorem zBa (κ:IntKind)(m j:Int):aveq (.int κ j) (.int κ m)=decide (j=m):=by
 have:keq κ κ=true:=by rw[xU];simp
 simp only[aveq,this,Bool.true_and,xV];rw[yG];simp
theorem XG {κ:IntKind}{m:Int}{v:AV} : ∀ {es es':List (AV×AV)},B0 (.int κ m) v es=some es'-> ∀j:Int,v6 (.int κ j) es'=if j=m then some v else v6 (.int κ j) es
 | [],_,h,_=>by cases h
 | (a,b)::es,es',h,j=>by
  simp only[B0]at h
  cases e:aveq (.int κ m) a with
  | true=>
   rw[e]at h;have o:=zJa e;subst o;obtain rfl:=y6 h;simp only[v6,zBa];by_cases f:j=m
   .simp[f]
   .simp[f]
  | false=>
   rw[e]at h;simp only[yH]at h
   cases i:B0 (.int κ m) v es with
   | none=>rw[i]at h;cases h
   | some r=>
    rw[i]at h;obtain rfl:=y6 h;have p:=XG i j;simp only[v6,p];by_cases f:j=m
    .subst f;simp[e]
    .simp[f]
theorem BZ {κ:IntKind}{m:Int}{v:AV} : ∀ {es:List (AV×AV)},B0 (.int κ m) v es=none-> ∀j:Int,v6 (.int κ j) (es++[(.int κ m,v)])=if j=m then some v else v6 (.int κ j) es
 | [],_,j=>by
  simp only[yA,v6,zBa];by_cases f:j=m<;>simp[f]
 | (a,b)::es,h,j=>by
  simp only[B0]at h
  cases e:aveq (.int κ m) a with
  | true=>rw[e]at h;cases h
  | false=>
   rw[e]at h;simp only[yH]at h
   cases i:B0 (.int κ m) v es with
   | some r=>rw[i]at h;cases h
   | none=>
    have o:=BZ i j;simp only[qF,v6,o];by_cases f:j=m
    .subst f;simp[e]
    .simp[f]
theorem zMK {κ:IntKind}{ks:List Nat}(a:h.ok)(M:h.h.get k=some (.map ks H))(o:YI ks ks=true){m:Int}(i:xM ks (.int κ m)=true)(v:AV):
  ∃H' es',upM ks (.map k) (.int κ m) v h=some (jT,H')/\H'.h.get k=some (.map ks es')/\(∀j:Int,v6 (.int κ j) es'=if j=m then some v else v6 (.int κ j) H)/\Stp (fun B=>B=k) h H'/\H'.next=h.next:=by
 cases f:B0 (.int κ m) v H with
 | some es'=>
  refine⟨h.put k (.map ks es'),es', ?_,by rw[zOl,if_pos rfl],XG f,(zOp a).put (a.lt M) _ (.inr rfl),rfl⟩;simp only[upM,i,zU,M,o,f,wM]
 | none=>
  refine⟨h.put k (.map ks (H++[(.int κ m,v)])),_, ?_,by rw[zOl,if_pos rfl],BZ f,(zOp a).put (a.lt M) _ (.inr rfl),rfl⟩;simp only[upM,i,zU,M,o,f,wM]
end Go.Eng
namespace Go.Eng.Sh
open Go.Nd (Ptr Str)
open Go.Bk
theorem zIP(p:h.ok){nb:Nat}(G:64<=nb)(I:nb<=8192): ∃H' A m o,f32 D n [.int .i64 nb] h=some (.tuple [.ptr A 0, .int .i64 (0:Nat)],H')/\Prs h H'/\h.next<=A/\h.next<=m/\h.next<=o/\DkI H' A nb [] m o .nS []:=by
 obtain⟨J,f,b1,H,q,K,L⟩:=box p (.map [6] []);obtain⟨M,i,b2,a,s,N,O⟩:=box H.ok (.map [6] []);obtain⟨t,u,v,j,x,Q,S⟩:=box a.ok (.cells [.int .i64 nb, .map f, .nS, .map i, .int .i64 (0:Nat), .nS, .bool false] 151 1 false);have T:=H.next;have U:=a.next
 refine⟨t,u,f,i, ?_,(H.trans a).trans j,by omega,by omega,by omega,⟨x,zOs (a.trans j) H.ok q,zOs j a.ok s,zOv ..,fun n=>rfl,fun w y=>(List.not_mem_nil y).elim,by simp,by omega⟩⟩;have z: ¬(nb:Int)< ((64:Nat):Int):=by omega
 have C: ¬((8192:Nat):Int)< (nb:Int):=by omega
 have F:uD [(0,1),(1,1),(2,1),(3,1),(4,1),(5,1),(6,1)] [.int .i64 (0:Nat), .nM, .nS, .nM, .int .i64 (0:Nat), .nS, .bool false] [(0, .int .i64 nb),(1, .map f),(3, .map i)]=some (.agg [.int .i64 nb, .map f, .nS, .map i, .int .i64 (0:Nat), .nS, .bool false]):=rfl;simp(maxSteps:=999999)(disch:=omega) only[f32,f85,eZ,z,C,mkM,b1,b2,F,v]
theorem zH8 (e:Nat){x c:AV}{s:List AV}(hr:t.length=512)(a:s.length=512)(h:isCell x=true):uD [(0,1),(1,512)] (c::t) [(0,x),(1, .agg s)]=some (.agg (x::s))/\Q2 e 513 1 (c::t) [(0, .agg (x::s))]=some (.cells (x::s) e 513 false,fun A=> .slice A 0 1 2):=by
 have i:setAt (c::t) 0 [x]=some (x::t):=by rw[xH (by simp)];rfl
 have j:setAt (x::t) 1 s=some (x::s):=by
  rw[xH (by simp[hr,a])];have:(x::t).drop (1+s.length)=[]:=qS (by simp[hr,a]);rw[this];simp
 have m:setAt (c::t) 0 (x::s)=some (x::s):=by
  rw[xH (by simp[hr,a])];have:(c::t).drop (0+(x::s).length)=[]:=qS (by simp[hr,a]);rw[this];simp
 have o:(aC [x] 0).beq 1=true:=rfl;have p:(aC s 0).beq 512=true:=by rw[kE,a];exact yK _
 have q:(aC (x::s) 0).beq 513=true:=by rw[kE,zY,a];exact yK _
 have r:=kR h;constructor
 .simp only[uD,gP,zIp,r,o,zU,i];simp only[kC,p,zU,j]
 .have f:rep 1 (c::t)=c::t:=by simp only[rep,yC]
  simp only[Q2,f,gP,kC,q,zU,Nat.zero_mul,m]
theorem zE8(a:h.ok){y:Ws}(d:DkI h k v y l B p H)(a0:G<v){b:Str}(hb:b.length=512)(hf:y.length<1000000):
  ∃H' M es',f26 D n [.ptr k 0, .int .i64 G, .agg (jQ b)] h=some (.int .i64 (0:Nat),H')/\DkI H' k v (y++[(G,b)]) l B M es'/\Stp (fun nb=>nb=k\/nb=B\/Blk p nb) h H'/\(∀nb,Blk M nb->Blk p nb\/h.next<=nb):=by
 obtain⟨Z,T⟩: ∃Z:Str,Z=List.replicate 512 0:=⟨_,rfl⟩;have a4:rep 512 [AV.int .u8 (0:Nat)]=jQ Z:=by rw[cV,T]
 have a5:(jQ Z).length=512:=by rw[jW,T];exact List.length_replicate
 obtain⟨U,A5,b1,C,g1,m1,n1⟩:=box a (.cells (jQ b) 55 1 false);have s:=d.prs a C;have ha:=zKg D n s a0;have a6: ¬(((0:Nat):Int)≠((0:Nat):Int)):=by omega
 have r3:Eng.ld1 (.ptr k 3) U=some (.map B):=by rw[jP s.gD];rfl
 have r2:Eng.ld1 (.ptr k 2) U=some p:=by rw[jP s.gD];rfl
 have lD:=a.lt d.gD;have lN:=a.lt d.gN;have lO:=a.lt d.gO;have N:k≠B:=fun e=>by have:=d.gD;rw[e,d.gN]at this;cases this
 have a7:k≠l:=fun e=>by have:=d.gD;rw[e,d.gO]at this;cases this
 have wA: ∀nb,Blk p nb->nb<h.next/\nb≠k/\nb≠l/\nb≠B:=fun nb f=>by
  have g:=d.ow.get f;refine⟨a.lt g,fun e=> ?_,fun e=> ?_,fun e=> ?_⟩
  .rw[e,d.gD]at g;simp at g
  .rw[e,d.gO]at g;cases g
  .rw[e,d.gN]at g;cases g
 obtain⟨I,es',e2,g2,f2,t,n2⟩:=zMK C.ok s.gN rfl (m:=(G:Int)) (keyI _) (.int .i64 y.length);have N1:=C.next
 have O:I.h.get k=_:=(t.keep _ (by omega) N).trans s.gD;have a8:I.h.get l=_:=(t.keep _ (by omega) d.ne).trans s.gO;have a9:Eng.ld1 (.ptr k 2) I=some p:=by rw[jP O];rfl
 have g5:I.h.get A5=_:=(t.keep _ (by omega) (by omega)).trans g1;have rb:=ldR g5 hb;have K:(jQ b).length=512:=by rw[jW,hb]
 obtain⟨q1,q2⟩:=zH8 153 (x:= .int .i64 G) (c:= .int .i64 (0:Nat)) a5 K rfl;obtain⟨J,A6,b3,u,g3,m3,n3⟩:=box t.ok (.cells (.int .i64 G::jQ b) 153 513 false);have Y:srcOf 513 (.slice A6 0 1 2) J=some (1,wV (G,b)):=by
  have b0:uP (AV.int .i64 G::jQ b) 0 (1*513)=some (wV (G,b)):=by
   rw[kV _ _ _ (.inr (by simp[K])),y9,zZ (by simp[K])];rfl
  simp only[srcOf,g3,b0]
 have N2:=t.next;have N3:=u.next
 have b2:Own 513 153 J p y.length (y.flatMap wV):=((d.ow.mono C fun _ _ x=>x).mono t fun nb f=>(wA nb f).2.2.2).mono u fun _ _ x=>x
 have b4:jS (wV (G,b))=true:=by
  have:=bytesV_cells b;simp only[wV,jS,this];rfl
 obtain⟨V,e4,b5,z,n4⟩:=bD (bytes:=520) (m:=1) u.ok (by decide) b2 Y (by rw[zCe hb]) b4 (by omega) (by omega) (by decide);have N4:=z.next
 have Q:V.h.get k=_:=(z.keep _ (by omega) (fun f=>(wA k f).2.1 rfl)).trans ((u.keep _ (by omega) (fun x=>x)).trans O);have b7:Eng.ld1 (.ptr k 2) V=some p:=by rw[jP Q];rfl
 obtain⟨W,e5,S,F,n5⟩:=xT z.ok Q (o:=2) (x:= .slice J.next 0 (y.length+1) 1) rfl (by simp)
 have b6:Eng.ld1 (.ptr k 4) W=some (.int .i64 (0:Nat)):=by rw[jP S];rfl
 refine⟨W, .slice J.next 0 (y.length+1) 1,es', ?_,⟨S, ?_, ?_, ?_,fun j=> ?_,fun w q=> ?_,by simp;omega,d.ne⟩,⟨F.ok,by omega,fun nb f L=> ?_⟩,fun nb f=> .inr (by rw[zOm.1 f];omega)⟩
 .simp(maxSteps:=999999)(disch:=omega) only[f26,f75,eZ,b1,ha,a6,r3,r2,s.ow.row.lnSl,e2,a9,rb,a4,qF,yA,q1,q2,b3,e4,e5,b6]
 .rw[F.keep _ (by omega) (fun e=>a7 e.symm),z.keep _ (by omega) (fun f=>(wA l f).2.2.1 rfl),u.keep _ (by omega) (fun x=>x)];exact a8
 .rw[F.keep _ (by omega) (fun e=>N e.symm),z.keep _ (by omega) (fun f=>(wA B f).2.2.2 rfl),u.keep _ (by omega) (fun x=>x)];exact g2
 .have:=b5.mono F fun nb f=>by rw[zOm.1 f];omega
  simpa[jJ]using this
 .rw[f2,QL,d.nw j];by_cases e:G=j
  .subst e;simp
  .have e': ¬((j:Nat):Int)=(G:Int):=by omega
   rw[if_neg e',if_neg e]
 .rcases qB.1 q with q | q
  .exact d.ln w q
  .obtain rfl:w=(G,b):=by simpa using q
   exact hb
 .have a1: ¬nb=k:=fun e=>L (.inl e)
  have a2: ¬nb=B:=fun e=>L (.inr (.inl e))
  have a3: ¬Blk p nb:=fun e=>L (.inr (.inr e))
  rw[F.keep nb (by omega) a1,z.keep nb (by omega) a3,u.keep nb (by omega) (fun x=>x),t.keep nb (by omega) a2,C.keep nb f (fun x=>x)]
end Go.Eng.Sh
end
section
namespace Go.Eng
theorem v5 (n A off:Nat)(k:IntKind){z:Int}(i:Nat)(f:z=(i:Int))(h:i<n):bG n 1 (.ptr A off) (.int k z)=some (.ptr A (off+i)):=by
 subst f;have a:=kO k (z:=(i:Int)) (by omega);simp only[yD]at a;have hb:Nat.blt i n=true:=by rw[qD];exact h
 simp only[bG,a,hb,zU,kG,Nat.mul_one]
end Go.Eng
namespace Go.Bk
def cnt (is:Nat->Nat)(w:Nat):Nat->Nat
 | 0=>0
 | n+1=>cnt is w n+(if is n=w then 1 else 0)
def aZ (is:Nat->Nat)(i b:Nat):Nat->Nat:=fun j=>if j=i then b else is j
theorem u6 (is:Nat->Nat)(i b:Nat):aZ is i b i=b:=by simp[aZ]
theorem vH (h:l≠k):aZ A k v l=A l:=by simp[aZ,h]
theorem zAW (is:Nat->Nat)(w:Nat): ∀n,cnt is w n<=n
 | 0=>zP _
 | n+1=>by
  have:=zAW is w n;simp only[cnt];split<;>omega
theorem zGZ {is a:Nat->Nat}{w:Nat} : ∀ {n:Nat},(∀i,i<n->(is i=w↔a i=w))->cnt is w n=cnt a w n
 | 0,_=>rfl
 | n+1,h=>by
  have j:=zGZ (n:=n) fun i hi=>h i (by omega)
  have f:=h n (by omega);simp only[cnt,j];by_cases e:is n=w
  .rw[if_pos e,if_pos (f.1 e)]
  .rw[if_neg e,if_neg fun x=>e (f.2 x)]
theorem KM {is:Nat->Nat}{i a b:Nat}(p:is i=a)(m:a≠b): ∀ {n:Nat},(i<n->cnt (aZ is i b) b n=cnt is b n+1/\cnt (aZ is i b) a n+1=cnt is a n)/\(¬i<n->cnt (aZ is i b) b n=cnt is b n/\cnt (aZ is i b) a n=cnt is a n)
 | 0=>⟨fun h=>by omega,fun _=>⟨rfl,rfl⟩⟩
 | n+1=>by
  obtain⟨s,q⟩:=KM p m (n:=n);refine⟨fun h=> ?_,fun h=> ?_⟩
  .by_cases e:i=n
   .subst e;obtain⟨f,j⟩:=q (by omega);simp only[cnt,u6,if_true,f,j,p];simp[m,Ne.symm m]
   .obtain⟨f,j⟩:=s (by omega);have o:n≠i:=fun x=>e x.symm
    simp only[cnt,vH o,f];omega
  .obtain⟨f,j⟩:=q (by omega);have o:n≠i:=by omega
   simp only[cnt,vH o,f,j,and_self]
theorem zGW (f:A k=v)(h:B≠v)(m:B≠l)(n:Nat):cnt (aZ A k l) B n=cnt A B n:=by
 refine zGZ fun j _=> ?_
 by_cases e:j=k
 .subst e;rw[u6,f];exact⟨fun x=>absurd x.symm m,fun x=>absurd x.symm h⟩
 .rw[vH e]
theorem zGV {is:Nat->Nat}{w:Nat} : ∀ {n i:Nat},i<n->is i=w->0<cnt is w n
 | n+1,i,h,e=>by
  simp only[cnt];by_cases hi:i=n
  .subst hi;rw[if_pos e];omega
  .have:=zGV (n:=n) (i:=i) (by omega) e;omega
theorem zKd {is:Nat->Nat}{w:Nat} : ∀ {n:Nat},0<cnt is w n-> ∃i,i<n/\is i=w
 | 0,h=>by simp[cnt]at h
 | n+1,h=>by
  simp only[cnt]at h;by_cases e:is n=w
  .exact⟨n,by omega,e⟩
  .rw[if_neg e]at h;obtain⟨i,f,a⟩:=zKd (n:=n) (by omega);exact⟨i,by omega,a⟩
def fnd (is:Nat->Nat)(w:Nat):Nat->Nat->Option Nat
 | 0,_=>none
 | d+1,i=>if is i=w then some i else fnd is w d (i+1)
theorem YR {is:Nat->Nat}{w:Nat} : ∀ {d i j:Nat},fnd is w d i=some j->i<=j/\j<i+d/\is j=w
 | 0,_,_,h=>by cases h
 | d+1,i,j,h=>by
  simp only[fnd]at h;split at h
  .rename_i e;obtain rfl:=y6 h;exact⟨zP _,by omega,e⟩
  .obtain⟨f,m,a⟩:=YR h;exact⟨by omega,by omega,a⟩
theorem zCO {is:Nat->Nat}{w:Nat} : ∀ {d i:Nat},fnd is w d i=none-> ∀j,i<=j->j<i+d->is j≠w
 | 0,_,_,j,h1,h2=>by omega
 | d+1,i,h,j,h1,h2=>by
  simp only[fnd]at h;split at h
  .cases h
  .rename_i e;by_cases a:j=i
   .subst a;exact e
   .exact zCO h j (by omega) (by omega)
end Go.Bk
namespace Go.Eng.Sh
open Go.Bk
def Spc (H:AH)(A nb a:Nat)(is:Nat->Nat):Prop:= ∃c,H.h.get A=some (.cells c 145 1 false)/\c.length=8198/\c[0]? =some (.int .i64 nb)/\c[1]? =some (.int .i64 a)/\(∀i,i<8192->c[2+i]? =some (.int .u8 (is i:Nat)))/\(∀k,k<4->c[8194+k]? =some (.int .i64 (cnt is k nb:Nat)))/\nb<=8192/\a<8192/\ ∀i,is i<4
theorem Spc.stp (S:Spc h k v l A)(f:h.ok)(s:Stp w h F)(i: ¬w k):Spc F k v l A:=by
 obtain⟨c,g,S⟩:=S;exact⟨c,by rw[s.keep _ (f.lt g) i];exact g,S⟩
theorem Spc.lt {H:AH}{A nb a:Nat}{is:Nat->Nat}(h:Spc H A nb a is)(f:H.ok):A<H.next:=by
 obtain⟨c,g,h⟩:=h;exact f.lt g
theorem Q9{i a b:Nat}(H:Spc h k v l A)(G:h.ok)(hi:i<v)(f:A i=a)(hb:b<4)(C:a≠b):
  ∃H',f86 D n [.ptr k 0, .int .i64 i, .int .u8 b] h=some (.tuple [],H')/\Spc H' k v l (aZ A i b)/\Stp (fun B=>B=k) h H'/\H'.next=h.next:=by
 obtain⟨c,g,hl,I,c1,t,p,J,K,u⟩:=H;have q:a<4:=by rw[<-f];exact u i
 obtain⟨q1,q2⟩:=(KM f C (n:=v)).1 hi;have a0:=zAW A a v;have a1:=zAW A b v;obtain⟨L,M,s,y,n1⟩:=xT G g (o:=8194+a) (x:= .int .i64 (cnt (aZ A i b) a v:Nat)) rfl (by omega);obtain⟨H2,m,N,z,n2⟩:=xT y.ok s (o:=8194+b) (x:= .int .i64 (cnt (aZ A i b) b v:Nat)) rfl (by simp;omega);obtain⟨O,Q,S,T,n3⟩:=xT z.ok N (o:=2+i) (x:= .int .u8 b) rfl (by simp;omega);refine⟨O, ?_,⟨_,S,by simp[hl], ?_, ?_,fun j U=> ?_,fun nb F=> ?_,J,K,fun j=> ?_⟩,(y.trans z).trans T,by omega⟩
 .have V:ld1 (.ptr k (2+i)) h=some (.int .u8 a):=wN g (by rw[t i (by omega),f]);have W:ld1 (.ptr k (8194+a)) h=some (.int .i64 (cnt A a v:Nat)):=wN g (p a q);have Y:ld1 (.ptr k (8194+b)) L=some (.int .i64 (cnt A b v:Nat)):=wN s (by rw[qV (by omega)];exact p b hb);have Z:bG 8192 1 (.ptr k 2) (.int .i64 i)=some (.ptr k (2+i)):=v5 8192 k 2 .i64 i rfl (by omega);have i1:bG 4 1 (.ptr k 8194) (.int .u8 a)=some (.ptr k (8194+a)):=v5 4 k 8194 .u8 a rfl q;have i2:bG 4 1 (.ptr k 8194) (.int .u8 b)=some (.ptr k (8194+b)):=v5 4 k 8194 .u8 b rfl hb;have w1:((cnt A a v:Nat):Int) - ((1:Nat):Int)=((cnt (aZ A i b) a v:Nat):Int):=by omega
  have w2:((cnt A b v:Nat):Int)+((1:Nat):Int)=((cnt (aZ A i b) b v:Nat):Int):=by omega
  simp(maxSteps:=999999)(disch:=omega) only[f86,eZ,Z,V,i1,W,w1,M,i2,Y,w2,m,Q]
 .rw[qV (by omega),qV (by omega),qV (by omega)];exact I
 .rw[qV (by omega),qV (by omega),qV (by omega)];exact c1
 .by_cases e:j=i
  .subst e;rw[List.getElem?_set_self (by simp;omega),u6]
  .rw[qV (by omega),qV (by omega),qV (by omega),vH e];exact t j U
 .rw[qV (by omega)];by_cases e:nb=b
  .subst e;rw[List.getElem?_set_self (by simp;omega)]
  .rw[qV (by omega)];by_cases m:nb=a
   .subst m;rw[List.getElem?_set_self (by omega)]
   .rw[qV (by omega),zGW f m e];exact p nb F
 .by_cases e:j=i
  .subst e;rw[u6];exact hb
  .rw[vH e];exact u j
theorem zF6 (x:AV): ∀n,rep n [x]=List.replicate n x
 | 0=>rfl
 | n+1=>by rw[rep,zF6 x n,List.replicate_succ];rfl
def zBI:Nat->Nat:=fun i=>if i<2 then 1 else 0
theorem zH0 (w n:Nat):cnt (fun _=>w) w n=n:=by
 induction n with
 | zero=>rfl
 | succ n ih=>simp[cnt,ih]
theorem zIV (h:v≠k)(n:Nat):cnt (fun _=>v) k n=0:=by
 induction n with
 | zero=>rfl
 | succ n ih=>simp[cnt,ih,h]
theorem zL6:aZ (aZ (fun _=>0) 0 1) 1 1=zBI:=by
 funext i
 match i with
 | 0=>rfl
 | 1=>rfl
 | i+2=>rw[vH (by omega),vH (by omega),zBI,if_neg (by omega)]
theorem zKG(hn:100<=n)(O:h.ok){nb:Nat}(s:64<=nb)(Q:nb<=8192): ∃H' A,f34 D n [.int .i64 nb] h=some (.tuple [.ptr A 0, .int .i64 (0:Nat)],H')/\Prs h H'/\h.next<=A/\Spc H' A nb 0 zBI:=by
 obtain⟨r,hr⟩: ∃r,r=rep 8192 [AV.int .u8 (0:Nat)]:=⟨_,rfl⟩;have p:=zF6 (AV.int .u8 (0:Nat)) 8192;rw[<-hr]at p;have q:r.length=8192:=by rw[p,List.length_replicate]
 have I: ∀i,i<8192->r[i]? =some (.int .u8 (0:Nat)):=fun i hi=>by rw[p,List.getElem?_replicate,if_pos hi]
 clear p;obtain⟨j,t⟩: ∃j,j=[AV.int .i64 (0:Nat), .int .i64 (0:Nat), .int .i64 (0:Nat), .int .i64 (0:Nat)]:=⟨_,rfl⟩;have hb:uD [(0,1),(1,1),(2,8192),(8194,4)] ([AV.int .i64 (0:Nat), .int .i64 (0:Nat)]++r++j) [(0, .int .i64 nb)]=some (.agg ([AV.int .i64 nb, .int .i64 (0:Nat)]++r++j)):=rfl;obtain⟨c,f⟩: ∃c,c=[AV.int .i64 nb, .int .i64 (0:Nat)]++r++j:=⟨_,rfl⟩;have J:c.length=8198:=by rw[f,t];simp[q]
 have S:c[0]? =some (.int .i64 nb):=by rw[f];rfl
 have c1:c[1]? =some (.int .i64 (0:Nat)):=by rw[f];rfl
 have T: ∀i,i<8192->c[2+i]? =some (.int .u8 (0:Nat)):=fun i hi=>by
  rw[f,qH,j9 (by simp),yW (by simp[q];omega)];simpa using I i hi
 have U: ∀i,i<4->c[8194+i]? =some (.int .i64 (0:Nat)):=fun i hi=>by
  rw[f,j9 (by simp[q]),t];have:8194+i - ([AV.int .i64 nb, .int .i64 (0:Nat)]++r).length=i:=by simp[q]
  rw[this]
  match i,hi with
  | 0,_=>rfl
  | 1,_=>rfl
  | 2,_=>rfl
  | 3,_=>rfl
 rw[<-f]at hb;clear f;obtain⟨H1,A,b1,v,V,W,n1⟩:=box O (.cells c 145 1 false);obtain⟨y,Y,Z,z,n2⟩:=xT v.ok V (o:=8194) (x:= .int .i64 nb) rfl (by omega);have K:Spc y A nb 0 fun _=>0:=⟨_,Z,by simp[J],by rw[qV (by omega)];exact S,by rw[qV (by omega)];exact c1,fun i hi=>by rw[qV (by omega)];exact T i hi,fun k L=>by
  by_cases e:k=0
  .subst e;rw[List.getElem?_set_self (by omega),zH0]
  .rw[qV (by omega),zIV (fun H=>e H.symm)];exact U k L,Q,by omega,fun _=>Nat.succ_pos 3⟩
 obtain⟨C,e3,M,F,n3⟩:=Q9 D n K z.ok (i:=0) (a:=0) (b:=1) (by omega) rfl (by omega) (by omega);obtain⟨m,e4,N,s4,n4⟩:=Q9 D n M F.ok (i:=1) (a:=0) (b:=1) (by omega) rfl (by omega) (by omega);have N1:=v.next
 have i1:bG 4 1 (.ptr A 8194) (.int .u8 (0:Nat))=some (.ptr A 8194):=v5 4 A 8194 .u8 0 rfl (by omega);refine⟨m,A, ?_,v.fresh ((z.trans F).trans s4) (fun B hB=>by omega),W,by rw[<-zL6];exact N⟩;obtain⟨k,rfl⟩: ∃k,n=k+1+1+1:=⟨n - 3,by omega⟩;have l0:zAC D (k+1+1+1) [.ptr A 0, .int .i64 (0:Nat)] y=some (.norm [.ptr A 0, .int .i64 (1:Nat)],C):=by
  have u:((0:Nat):Int)< ((2:Nat):Int):=by omega
  have s:((0:Nat):Int)+((1:Nat):Int)=((1:Nat):Int):=by omega
  simp(maxSteps:=999999)(disch:=omega) only[zAC,eZ,u,e3,s]
 have l1:zAC D (k+1+1+1) [.ptr A 0, .int .i64 (1:Nat)] C=some (.norm [.ptr A 0, .int .i64 (2:Nat)],m):=by
  have u:((1:Nat):Int)< ((2:Nat):Int):=by omega
  have s:((1:Nat):Int)+((1:Nat):Int)=((2:Nat):Int):=by omega
  simp(maxSteps:=999999)(disch:=omega) only[zAC,eZ,u,e4,s]
 have l2:zAC D (k+1+1+1) [.ptr A 0, .int .i64 (2:Nat)] m=some (.exit 0 [.ptr A 0],m):=by
  simp(maxSteps:=999999)(disch:=omega) only[zAC,eZ,yS]
 have G:kL (k+1+1+1) (zAC D (k+1+1+1)) [.ptr A 0, .int .i64 (0:Nat)] y=some (.exit 0 [.ptr A 0],m):=by
  rw[kX l0,kX l1,jZ l2]
 have a1: ¬(nb:Int)< ((64:Nat):Int):=by omega
 have a2: ¬((8192:Nat):Int)< (nb:Int):=by omega
 simp(maxSteps:=999999)(disch:=omega) only[f34,<-hr,eZ,a1,a2,<-t,hb,b1,i1,Y,G,zNE]
end Go.Eng.Sh
end
section
namespace Go.Eng
theorem X8 (a:h.ok)(o:AObj)(K:Nat->AH->Rs):B7 h o K=K h.next (h.push o):=zFC a o K
theorem mx2S (a b:Nat):mx2 (.int .i64 a) (.int .i64 b)=some (.int .i64 (max a b:Nat)):=by
 by_cases h:a<b
 .have hb:ilt (a:Int) (b:Int)=true:=by rw[uG];simpa using h
  simp only[mx2,hb,zU,show max a b=b by omega]
 .have hb:ilt (a:Int) (b:Int)=false:=by rw[uG];simpa using h
  simp only[mx2,hb,yH,show max a b=a by omega]
end Go.Eng
namespace Go.Eng.Sh
open Go.Bk
theorem zI5(H:Spc h k v l A):f23 D n [.ptr k 0] h=some (.int .i64 (cnt A 0 v:Nat),h):=by
 obtain⟨c,g,hl,m,c1,o,f,p,q,s⟩:=H;have i:ld1 (.ptr k (8194+0)) h=some (.int .i64 (cnt A 0 v:Nat)):=wN g (f 0 (by omega));have j:bG 4 1 (.ptr k 8194) (.int .u8 (0:Nat))=some (.ptr k (8194+0)):=v5 4 k 8194 .u8 0 rfl (by omega);simp(maxSteps:=999999)(disch:=omega) only[f23,eZ,cq,j,i]
theorem Spc.la' (H:Spc h k v l A)(j:h.ok){x:Nat}(m:x<8192): ∃H',stN 1 (.ptr k 1) (.int .i64 x) h=some (jT,H')/\Spc H' k v x A/\Stp (fun B=>B=k) h H'/\H'.next=h.next:=by
 obtain⟨c,g,hl,p,c1,q,s,t,G,u⟩:=H;obtain⟨f,y,z,C,F⟩:=xT j g (o:=1) (x:= .int .i64 x) rfl (by omega);refine⟨f,y,⟨_,z,by simp[hl], ?_, ?_,fun i hi=> ?_,fun nb a=> ?_,t,m,u⟩,C,F⟩
 .rw[qV (by omega)];exact p
 .rw[List.getElem?_set_self (by omega)]
 .rw[qV (by omega)];exact q i hi
 .rw[qV (by omega)];exact s nb a
theorem zL3 (D:Dyn)(n:Nat){A:Nat}(m:Box h k (.ptr l 0))(p:Box h v (.int .u8 J))(x:Spc h l B G j):
  ∀d i f,i+d=B->d<f->match fnd j J d i with
   | none=>kL f (bN D n) [.yT A, .ptr k 0, .ptr v 0, .int .i64 ((i:Nat):Int)] h=some (.exit 0 [],h)
   | some nb=> ∀H',callV [] D (.yT A) [.int .i64 nb] h=some (.bool false,H')->kL f (bN D n) [.yT A, .ptr k 0, .ptr v 0, .int .i64 ((i:Nat):Int)] h=some (.ret (.tuple []),H'):=by
 obtain⟨c,g,hl,y,c1,z,A4,I,a,K⟩:=id x;have o:ld1 (.ptr l 0) h=some (.int .i64 B):=wN g y;intro d
 induction d with
 | zero=>
  intro i f hi C;obtain⟨f,rfl⟩: ∃k',f=k'+1:=⟨f - 1,by omega⟩;have t: ¬((i:Nat):Int)< (B:Int):=by omega
  simp only[fnd];exact jZ (by simp(maxSteps:=999999)(disch:=omega) only[bN,eZ,m.ld,o,t])
 | succ d ih=>
  intro i f hi C;obtain⟨f,rfl⟩: ∃k',f=k'+1:=⟨f - 1,by omega⟩;have t:((i:Nat):Int)< (B:Int):=by omega
  have q:bG 8192 1 (.ptr l 2) (.int .i64 ((i:Nat):Int))=some (.ptr l (2+i)):=v5 8192 l 2 .i64 i rfl (by omega);have s:ld1 (.ptr l (2+i)) h=some (.int .u8 (j i:Nat)):=wN g (z i (by omega));simp only[fnd];by_cases e:j i=J
  .rw[if_pos e];intro H' u;have H:((j i:Nat):Int)=(J:Int):=by omega
   exact ZC (by simp(maxSteps:=999999)(disch:=omega) only[bN,eZ,m.ld,o,t,q,s,p.ld,H,u])
  .rw[if_neg e];have H: ¬((j i:Nat):Int)=(J:Int):=by omega
   have hi1:((i:Nat):Int)+((1:Nat):Int)=((i+1:Nat):Int):=by omega
   have F:bN D n [.yT A, .ptr k 0, .ptr v 0, .int .i64 ((i:Nat):Int)] h=some (.norm [.yT A, .ptr k 0, .ptr v 0, .int .i64 (i+1:Nat)],h):=by
    simp(maxSteps:=999999)(disch:=omega) only[bN,eZ,m.ld,o,t,q,s,p.ld,H,hi1]
   have:=ih (i+1) f (by omega) (by omega);rw[kX F];exact this
def ofR (is:Nat->Nat)(w nb ab:Nat):Option Nat:=if cnt is w nb=0 then none else fnd is w (nb - max (ab+1) 2) (max (ab+1) 2)
theorem zIm (D:Dyn)(n:Nat)(L:10000<=n){A:Nat}(m:Box h k (.ptr B 0))(o:Box h v (.int .u8 N))(u:Box h l (.int .i64 Q))(p:Spc h B G J j)(x:N<4)(q:Q<G)(K:2<=G):
  match ofR j N G Q with
   | none=>f207 D n [.yT A, .ptr k 0, .ptr v 0, .ptr l 0] h=some (.tuple [],h)
   | some I=> ∀H',callV [] D (.yT A) [.int .i64 I] h=some (.bool false,H')->f207 D n [.yT A, .ptr k 0, .ptr v 0, .ptr l 0] h=some (.tuple [],H'):=by
 obtain⟨c,g,hl,M,c1,a,F,O,nb,S⟩:=id p;have s:ld1 (.ptr B (8194+N)) h=some (.int .i64 (cnt j N G:Nat)):=wN g (F N x);have t:bG 4 1 (.ptr B 8194) (.int .u8 N)=some (.ptr B (8194+N)):=v5 4 B 8194 .u8 N rfl x;have hi1:(Q:Int)+((1:Nat):Int)=((Q+1:Nat):Int):=by omega
 have hm:=mx2S (Q+1) 2;obtain⟨i,hi⟩: ∃i,i=max (Q+1) 2:=⟨_,rfl⟩;rw[<-hi]at hm;have f:=zL3 D n (A:=A) m o p (G - i) i n (by omega) (by omega);simp only[ofR,<-hi];by_cases y:cnt j N G=0
 .rw[if_pos y];have H:((cnt j N G:Nat):Int)=((0:Nat):Int):=by omega
  simp(maxSteps:=999999)(disch:=omega) only[f207,eZ,m.ld,o.ld,t,s,H]
 .rw[if_neg y];have H: ¬((cnt j N G:Nat):Int)=((0:Nat):Int):=by omega
  cases z:fnd j N (G - i) i with
  | none=>
   rw[z]at f;simp only at f⊢;simp(maxSteps:=999999)(disch:=omega) only[f207,eZ,m.ld,o.ld,t,s,H,u.ld,hi1,hm,f,zGf]
  | some I=>
   rw[z]at f;simp only at f⊢;intro H' C;have A4:=f H' C;simp(maxSteps:=999999)(disch:=omega) only[f207,eZ,m.ld,o.ld,t,s,H,u.ld,hi1,hm,A4]
def lpT (a f h:Nat):ALoop:=⟨.ready,none,195,0,[1,2,3],[.ptr a 0, .ptr f 0, .ptr h 0]⟩
theorem zNY (m H:Nat)(o:h.h.get k=some (.loop (lpT v l B)))(a:List AV):callV [] (dy (m+1)) (.yT k) a h=WY (dy m) m k (lpT v l B) a h:=by
 show VV (tabR (dy m) m) k a h=_;simp only[VV,o];rfl
theorem zDE(u:h.ok)(i:h.h.get k=some (.loop (lpT v l B)))(b1:Box h v (.ptr G 0))(b2:Box h l p)(T:Box h B I)(f:Spc h G J N A)(hj:Q<J)(a5:A Q=0)
  (U:l≠B) (L:l≠G) (M:B≠G) (d4:v≠l) (d5:v≠B):
  ∃H',WY D n k (lpT v l B) [.int .i64 Q] h=some (.bool false,H')/\H'.h.get k=some (.loop { lpT v l B with state:= .done,pending:=some .ret})/\Box H' l (.int .i64 Q)/\Box H' B (.int .i64 (0:Nat))/\Spc H' G J Q (aZ A Q 2)/\Stp (fun a=>a=k\/a=G\/a=l\/a=B) h H':=by
 obtain⟨c,x,_⟩:=id f;have F:G≠k:=fun e=>by rw[e,i]at x;cases x
 have n1:v≠k:=fun e=>by obtain⟨_,hb⟩:=b1;rw[e,i]at hb;cases hb
 have nb:l≠k:=fun e=>by obtain⟨_,hb⟩:=b2;rw[e,i]at hb;cases hb
 have O:B≠k:=fun e=>by obtain⟨_,hb⟩:=T;rw[e,i]at hb;cases hb
 have a6:v≠G:=fun e=>by
  obtain⟨_,hb⟩:=b1;obtain⟨_,x,hl,_⟩:=f;rw[e,x]at hb;simp only[zC,AObj.cells.injEq]at hb;rw[hb.1]at hl;simp at hl
 have h2:J<=8192:=by obtain⟨_,_,_,_,_,_,_,H,_⟩:=f;exact H
 have m:Stp (fun a=>a=k) h (h.put k (.loop { lpT v l B with state:= .busy})):=(zOp u).put (u.lt i) _ (.inr rfl);have V:(h.put k (.loop { lpT v l B with state:= .busy})).h.get k=some (.loop { lpT v l B with state:= .busy}):=by rw[zOl,if_pos rfl]
 have la: ∀K:AH->Rs,dL k h K=K (h.put k (.loop { lpT v l B with state:= .busy})):=fun K=>by
  simp only[dL,i,lpT,wM]
 generalize h.put k (.loop { lpT v l B with state:= .busy})=H1 at m V la;have S:=b1.mono u m n1;have a7:=f.stp u m F;obtain⟨H2,e2,a8,q,c1⟩:=Q9 D n a7 m.ok hj a5 (b:=2) (by omega) (by omega);have a9:=S.mono m.ok q a6;obtain⟨H3,e3,b0,s,c2⟩:=a8.la' q.ok (x:=Q) (by omega);have b4:=((b2.mono u m nb).mono m.ok q L).mono q.ok s L;obtain⟨H4,e4,b5,t⟩:=b4.st s.ok (x:= .int .i64 Q) rfl;have b6:=(((T.mono u m O).mono m.ok q M).mono q.ok s M).mono s.ok t (fun e=>U e.symm);obtain⟨C,e5,b7,j⟩:=b6.st t.ok (x:= .int .i64 (0:Nat)) rfl;have lA:=u.lt i;have N1:=m.next;have N2:=q.next;have N3:=s.next;have N4:=t.next;have N5:=j.next
 have W:C.h.get k=some (.loop { lpT v l B with state:= .busy}):=by
  rw[j.keep _ (by omega) (fun e=>O e.symm),t.keep _ (by omega) (fun e=>nb e.symm),s.keep _ (by omega) (fun e=>F e.symm),q.keep _ (by omega) (fun e=>F e.symm)];exact V
 have z:Stp (fun a=>a=k) C (C.put k (.loop { lpT v l B with state:= .done,pending:=some .ret})):=(zOp j.ok).put (j.ok.lt W) _ (.inr rfl);have a0:zAM k (some .ret) C=some (.bool false,C.put k (.loop { lpT v l B with state:= .done,pending:=some .ret})):=by
  simp only[zAM,W,wM,lpT]
 have b8:=b5.mono t.ok j U;have b9:=(b0.stp s.ok t (fun e=>L e.symm)).stp t.ok j (fun e=>M e.symm);have r2:ld1 (.ptr v 0) H2=some (.ptr G 0):=a9.ld;refine⟨_, ?_,by rw[zOl,if_pos rfl],b8.mono j.ok z nb,b7.mono j.ok z O,b9.stp j.ok z F,⟨z.ok,by have:=z.next;omega,fun a hB o=> ?_⟩⟩
 .have hl:YI [1,2,3] (lpT v l B).live=true:=rfl;have c0:(lpT v l B).vals=[.ptr v 0, .ptr l 0, .ptr B 0]:=rfl;simp(maxSteps:=999999)(disch:=omega) only[WY,eZ,hl,c0,zU,la,S.ld,e2,r2,e3,e4,e5];exact a0
 .have Y: ¬a=k:=fun e=>o (.inl e)
  have Z: ¬a=G:=fun e=>o (.inr (.inl e))
  have a3: ¬a=l:=fun e=>o (.inr (.inr (.inl e)))
  have a4: ¬a=B:=fun e=>o (.inr (.inr (.inr e)))
  rw[z.keep a (by omega) Y,j.keep a (by omega) a4,t.keep a (by omega) a3,s.keep a (by omega) Z,q.keep a (by omega) Z,m.keep a hB Y]
theorem take_one (m n:Nat)(hm:10000<=m)(q:h.ok){ab:Nat}(b1:Box h k (.ptr B 0))(b2:Box h v p)(b3:Box h l I)(sp:Spc h B G J A)(a5:ab<G)(a6:2<=G)
  (d1:v≠l) (d2:v≠B) (d3:l≠B) (d4:k≠v) (d5:k≠l):
  match ofR A 0 G ab with
  | none=> ∃H',(∀(z:AH->Rs) (o:AH->Nat->Rs) (C:AH->Rs),(bR (f168 (dy (m+2)) n [.ptr B 0, .int .u8 (0:Nat), .int .i64 ab] h) fun V h=>B7 h (.loop ⟨.ready,none,195,0,[1,2,3],[.ptr k 0, .ptr v 0, .ptr l 0]⟩) fun la h=>bR (rfC [(168,f168 (dy (m+2)) n),(86,f86 (dy (m+2)) n)] (dy (m+2)) V la h) fun _ h=>aH la h fun j h=>zEk j (z h) (o h) (C h))=z H')/\Prs h H'
  | some j=> ∃H',(∀(z:AH->Rs) (o:AH->Nat->Rs) (C:AH->Rs),(bR (f168 (dy (m+2)) n [.ptr B 0, .int .u8 (0:Nat), .int .i64 ab] h) fun V h=>B7 h (.loop ⟨.ready,none,195,0,[1,2,3],[.ptr k 0, .ptr v 0, .ptr l 0]⟩) fun la h=>bR (rfC [(168,f168 (dy (m+2)) n),(86,f86 (dy (m+2)) n)] (dy (m+2)) V la h) fun _ h=>aH la h fun j h=>zEk j (z h) (o h) (C h))=C H')/\Box H' v (.int .i64 ((j:Nat):Int))/\Box H' l (.int .i64 (0:Nat))/\Spc H' B G j (aZ A j 2)/\Stp (fun f=>f=B\/f=v\/f=l) h H':=by
 obtain⟨H1,N,q1,S,g1,m1,n1⟩:=box q (.cells [.ptr B 0] 36 1 false);obtain⟨H2,O,q2,L,g2,m2,n2⟩:=box S.ok (.cells [.int .u8 (0:Nat)] 141 1 false);obtain⟨a,Q,q3,u,g3,m3,n3⟩:=box L.ok (.cells [.int .i64 ab] 3 1 false);have t:Prs a (a.push (.loop (lpT k v l))):=(zOp u.ok).push _;have M:(a.push (.loop (lpT k v l))).h.get a.next=some (.loop (lpT k v l)):=zOh _ _
 have T: ∀K:Nat->AH->Rs,B7 a (.loop ⟨.ready,none,195,0,[1,2,3],[.ptr k 0, .ptr v 0, .ptr l 0]⟩) K=K a.next (a.push (.loop (lpT k v l))):=fun K=>X8 u.ok _ K
 generalize a.push (.loop (lpT k v l))=H4 at t M T;have P3:=(S.trans L).trans u;have H:=P3.trans t;have N1:=S.next;have N2:=L.next;have N3:=u.next;have N4:=t.next
 have l1:=b1.lt q;have l2:=b2.lt q;have l3:=b3.lt q;have lS:=sp.lt q;have c3:Box H4 N (.ptr B 0):=⟨_,zOs ((L.trans u).trans t) S.ok g1⟩;have c4:Box H4 O (.int .u8 (0:Nat)):=⟨_,zOs (u.trans t) L.ok g2⟩;have c5:Box H4 Q (.int .i64 ab):=⟨_,zOs t u.ok g3⟩;have a0:=sp.stp q H (fun p=>p);have F:=zIm (dy (m+1)) (m+1) (by omega) (A:=a.next) c3 c4 c5 a0 (by omega) a5 a6
 have Z:f168 (dy (m+2)) n [.ptr B 0, .int .u8 (0:Nat), .int .i64 ab] h=some (.func 207 [] [.ptr N 0, .ptr O 0, .ptr Q 0],a):=by
  simp only[f168,eZ,cbx,q1,q2,q3]
 cases hr:ofR A 0 G ab with
 | none=>
  rw[hr]at F;simp only at F⊢;have s:Stp (fun f=>f=a.next) H4 (H4.put a.next .dead):=(zOp t.ok).put (t.ok.lt M) _ (.inr rfl)
  have U: ∀K:Option Code->AH->Rs,aH a.next H4 K=K none (H4.put a.next .dead):=fun K=>by
   simp only[aH,M,lpT,wM]
  have W:rfC [(168,f168 (dy (m+2)) n),(86,f86 (dy (m+2)) n)] (dy (m+2)) (.func 207 [] [.ptr N 0, .ptr O 0, .ptr Q 0]) a.next H4=some (.tuple [],H4):=F
  refine⟨_,fun z o C=> ?_,H.fresh s fun f hB=>by omega⟩;simp only[Z,bR,T,W,U,zEk]
 | some j=>
  rw[hr]at F;simp only at F⊢;have hj:j<G/\A j=0:=by
   simp only[ofR]at hr;split at hr
   .cases hr
   .obtain⟨h1,h2,h3⟩:=YR hr;exact⟨by omega,h3⟩
  obtain⟨i,e5,g5,a7,a8,a9,s⟩:=zDE (dy m) m H.ok M (b1.mono q H (fun p=>p)) (b2.mono q H (fun p=>p)) (b3.mono q H (fun p=>p)) a0 hj.1 hj.2 d1 d2 d3 d4 d5;have a4:=F i ((zNY m (m+1) M _).trans e5);have W:rfC [(168,f168 (dy (m+2)) n),(86,f86 (dy (m+2)) n)] (dy (m+2)) (.func 207 [] [.ptr N 0, .ptr O 0, .ptr Q 0]) a.next H4=some (.tuple [],i):=a4
  have nb:Stp (fun f=>f=a.next) i (i.put a.next .dead):=(zOp s.ok).put (s.ok.lt g5) _ (.inr rfl)
  have U: ∀K:Option Code->AH->Rs,aH a.next i K=K (some .ret) (i.put a.next .dead):=fun K=>by
   simp only[aH,g5,lpT,wM]
  have N5:=s.next;have N6:=nb.next
  refine⟨_,fun z o C=> ?_,a7.mono s.ok nb (by omega),a8.mono s.ok nb (by omega),a9.stp s.ok nb (by omega),⟨nb.ok,by omega,fun f hB Y=> ?_⟩⟩
  .simp only[Z,bR,T,W,U,zEk]
  .have a1: ¬f=B:=fun e=>Y (.inl e)
   have a2: ¬f=v:=fun e=>Y (.inr (.inl e))
   have a3: ¬f=l:=fun e=>Y (.inr (.inr e))
   rw[nb.keep f (by omega) (by omega),s.keep f (by omega) (fun e=>by rcases e with e | e | e | e<;>omega),H.keep f hB (fun p=>p)]
theorem zHU (m n:Nat)(hm:10000<=m)(hn:100<=n)(L:h.ok)(M:Spc h k v l A)(a2:l<v)(a0:2<=v)(h0:A 0≠0)(N:A 1≠0)(hf:0<cnt A 0 v):
  ∃H' j,f195 (dy (m+2)) n [.ptr k 0] h=some (.tuple [.int .i64 ((j:Nat):Int), .int .i64 (0:Nat)],H')/\2<=j/\j<v/\A j=0/\Spc H' k v j (aZ A j 2)/\Stp (fun B=>B=k) h H':=by
 obtain⟨c,g,hl,c0,c1,hc,a7,q1,q2,q3⟩:=id M;obtain⟨H1,nb,b1,G,g1,m1,n1⟩:=box L (.cells [.ptr k 0] 36 1 false);obtain⟨H2,y,b2,z,g2,m2,n2⟩:=box G.ok (.cells [.int .i64 (0:Nat)] 3 1 false);obtain⟨t,C,b3,I,g3,m3,n3⟩:=box z.ok (.cells [.int .i64 (0:Nat)] 32 1 false);have f:=(G.trans z).trans I;have N1:=G.next;have N2:=z.next;have N3:=I.next
 have lS:=M.lt L;have J:=M.stp L f (fun x=>x);have q:Box t nb (.ptr k 0):=⟨_,zOs (z.trans I) G.ok g1⟩;have x2:Box t y (.int .i64 (0:Nat)):=⟨_,zOs I z.ok g2⟩;have x3:Box t C (.int .i64 (0:Nat)):=⟨_,g3⟩;have rl:ld1 (.ptr k 1) t=some (.int .i64 l):=by
  obtain⟨c',g',_,_,a3,_⟩:=J;exact wN g' a3
 have a1:zKf 1 [.int .i64 (0:Nat), .int .i64 (0:Nat)] [(0, .int .i64 l),(1, .int .i64 (0:Nat))]=some (.agg [.int .i64 l, .int .i64 (0:Nat)]):=rfl;have i0:zBN 2 1 (.agg [.int .i64 l, .int .i64 (0:Nat)]) (.int .i64 (0:Nat))=some (.int .i64 l):=rfl;have i1:zBN 2 1 (.agg [.int .i64 l, .int .i64 (0:Nat)]) (.int .i64 (1:Nat))=some (.int .i64 (0:Nat)):=rfl;have t0:((0:Nat):Int)< ((2:Nat):Int):=by omega
 have t1:((1:Nat):Int)< ((2:Nat):Int):=by omega
 have a4:((0:Nat):Int)+((1:Nat):Int)=((1:Nat):Int):=by omega
 obtain⟨p,rfl⟩: ∃p,n=p+1+1:=⟨n - 2,by omega⟩;have u:=take_one m (p+1+1) hm f.ok q x2 x3 J a2 a0 (by omega) (by omega) (by omega) (by omega) (by omega)
 cases hr:ofR A 0 v l with
 | some j=>
  rw[hr]at u;simp only at u;obtain⟨F,O,Q,S,a5,T⟩:=u;have s:2<=j/\j<v/\A j=0:=by
   simp only[ofR]at hr;split at hr
   .cases hr
   .obtain⟨N,h2,U⟩:=YR hr;exact⟨by omega,by omega,U⟩
  refine⟨F,j, ?_,s.1,s.2.1,s.2.2,a5,⟨T.ok,by have:=T.next;omega,fun B V W=> ?_⟩⟩
  .have Y:Y6 (dy (m+2)) (p+1+1) [.ptr nb 0, .ptr y 0, .ptr C 0, .agg [.int .i64 l, .int .i64 (0:Nat)], .int .i64 (0:Nat)] t=some (.ret (.tuple [.int .i64 ((j:Nat):Int), .int .i64 (0:Nat)]),F):=by
    simp(maxSteps:=999999)(disch:=omega) only[Y6,eZ,t0,i0,q.ld,O,Q.ld,S.ld]
   simp(maxSteps:=999999)(disch:=omega) only[f195,eZ,cbx,cq,b1,b2,b3,q.ld,rl,a1,ZC Y]
  .rw[T.keep B (by omega) (fun e=>by rcases e with e | e | e<;>first | omega | exact W e),f.keep B V (fun x=>x)]
 | none=>
  rw[hr]at u;simp only at u;obtain⟨F,O,o⟩:=u;have N4:=o.next
  have Z:=take_one m (p+1+1) hm o.ok (q.mono f.ok o (fun x=>x)) (x2.mono f.ok o (fun x=>x)) (x3.mono f.ok o (fun x=>x)) (J.stp f.ok o (fun x=>x)) (ab:=0) (by omega) a0 (by omega) (by omega) (by omega) (by omega) (by omega)
  cases H:ofR A 0 v 0 with
  | none=>
   exfalso;simp only[ofR]at H;rw[if_neg (by omega)]at H;obtain⟨i,hi,K⟩:=zKd hf;have:i≠0/\i≠1:=⟨fun e=>h0 (e▸K),fun e=>N (e▸K)⟩;exact zCO H i (by omega) (by omega) K
  | some j=>
   rw[H]at Z;simp only at Z;obtain⟨H5,e5,Q,S,a6,s5⟩:=Z;have s:2<=j/\j<v/\A j=0:=by
    simp only[ofR]at H;split at H
    .cases H
    .obtain⟨N,h2,U⟩:=YR H;exact⟨by omega,by omega,U⟩
   refine⟨H5,j, ?_,s.1,s.2.1,s.2.2,a6,⟨s5.ok,by have:=s5.next;omega,fun B V W=> ?_⟩⟩
   .have Y:Y6 (dy (m+2)) (p+1+1) [.ptr nb 0, .ptr y 0, .ptr C 0, .agg [.int .i64 l, .int .i64 (0:Nat)], .int .i64 (0:Nat)] t=some (.norm [.ptr nb 0, .ptr y 0, .ptr C 0, .agg [.int .i64 l, .int .i64 (0:Nat)], .int .i64 (1:Nat)],F):=by
     simp(maxSteps:=999999)(disch:=omega) only[Y6,eZ,t0,i0,q.ld,O,a4]
    have l1:Y6 (dy (m+2)) (p+1+1) [.ptr nb 0, .ptr y 0, .ptr C 0, .agg [.int .i64 l, .int .i64 (0:Nat)], .int .i64 (1:Nat)] F=some (.ret (.tuple [.int .i64 ((j:Nat):Int), .int .i64 (0:Nat)]),H5):=by
     simp(maxSteps:=999999)(disch:=omega) only[Y6,eZ,t1,i1,(q.mono f.ok o (fun x=>x)).ld,e5,Q.ld,S.ld]
    simp(maxSteps:=999999)(disch:=omega) only[f195,eZ,cbx,cq,b1,b2,b3,q.ld,rl,a1,kX Y,ZC l1]
   .rw[s5.keep B (by omega) (fun e=>by rcases e with e | e | e<;>first | omega | exact W e),o.keep B (by omega) (fun x=>x),f.keep B V (fun x=>x)]
end Go.Eng.Sh
end
section
namespace Go.Bk
def zBr (is:Nat->Nat)(w b i nb:Nat):Nat->Nat:=fun j=>if i<=j/\j<nb/\is j=w then b else is j
theorem zJf (m:k≠v)(hi:l<B)(h:A l=k):zBr (aZ A l v) k v (l+1) B=zBr A k v l B:=by
 funext j;simp only[zBr];by_cases e:j=l
 .subst e;rw[u6,if_neg (by omega),if_pos ⟨zP _,hi,h⟩]
 .rw[vH e];by_cases a:l+1<=j/\j<B/\A j=k
  .rw[if_pos a,if_pos ⟨by omega,a.2⟩]
  .rw[if_neg a,if_neg fun f=>a ⟨by omega,f.2⟩]
theorem zHm (h:A l≠k):zBr A k v (l+1) B=zBr A k v l B:=by
 funext j;simp only[zBr];by_cases e:j=l
 .subst e;rw[if_neg (by omega),if_neg fun f=>h f.2.2]
 .by_cases a:l+1<=j/\j<B/\A j=k
  .rw[if_pos a,if_pos ⟨by omega,a.2⟩]
  .rw[if_neg a,if_neg fun f=>a ⟨by omega,f.2⟩]
theorem zJg (is:Nat->Nat)(w b nb:Nat):zBr is w b nb nb=is:=by
 funext j;simp only[zBr];rw[if_neg (by omega)]
theorem zHl (h:cnt A k B=0):zBr A k v l B=A:=by
 funext j;simp only[zBr];rw[if_neg fun a=>by have:=zGV a.2.1 a.2.2;omega]
def stlS (is:Nat->Nat)(nb:Nat):Nat->Nat:=zBr (zBr is 3 0 2 nb) 2 1 2 nb
end Go.Bk
namespace Go.Eng.Sh
open Go.Bk
def lpA (a f:Nat):ALoop:=⟨.ready,none,117,0,[3,5],[.ptr a 0, .ptr f 0]⟩
theorem zO0 (m H:Nat)(j:h.h.get k=some (.loop (lpA v l)))(a:List AV):callV [] (dy (m+1)) (.yT k) a h=WZ (dy m) m k (lpA v l) a h:=by
 show VV (tabR (dy m) m) k a h=_;simp only[VV,j];rfl
theorem Spc.nbox (i:Spc h k v l A)(b1:Box h B p):B≠k:=fun e=>by
 obtain⟨_,hb⟩:=b1;obtain⟨_,j,hl,_⟩:=i;rw[e,j]at hb;simp only[zC,AObj.cells.injEq]at hb;rw[hb.1]at hl;simp at hl
theorem zHk(m:h.ok){j:Nat}(p:h.h.get k=some (.loop (lpA v l)))(y:Box h v (.ptr B 0))(z:Box h l (.int .u8 Q))(C:Spc h B G J A)(U:j<G)(nb:A j=N)(O:N≠Q)(hb:Q<4):
  ∃H',WZ D n k (lpA v l) [.int .i64 j] h=some (.bool true,H')/\H'.h.get k=some (.loop (lpA v l))/\Spc H' B G J (aZ A j Q)/\Stp (fun a=>a=k\/a=B) h H':=by
 obtain⟨c,F,_⟩:=id C;have u:B≠k:=fun e=>by rw[e,p]at F;cases F
 have V:v≠k:=fun e=>by obtain⟨_,hb⟩:=y;rw[e,p]at hb;cases hb
 have W:l≠k:=fun e=>by obtain⟨_,hb⟩:=z;rw[e,p]at hb;cases hb
 have i:Stp (fun a=>a=k) h (h.put k (.loop { lpA v l with state:= .busy})):=(zOp m).put (m.lt p) _ (.inr rfl);have f:(h.put k (.loop { lpA v l with state:= .busy})).h.get k=some (.loop { lpA v l with state:= .busy}):=by rw[zOl,if_pos rfl]
 have H: ∀K:AH->Rs,dL k h K=K (h.put k (.loop { lpA v l with state:= .busy})):=fun K=>by
  simp only[dL,p,lpA,wM]
 generalize h.put k (.loop { lpA v l with state:= .busy})=H1 at i f H;have x:=C.stp m i u;obtain⟨s,Y,S,q,a0⟩:=Q9 D n x i.ok U nb hb O;have lA:=m.lt p;have N1:=i.next;have N2:=q.next
 have I:s.h.get k=some (.loop { lpA v l with state:= .busy}):=by rw[q.keep _ (by omega) (fun e=>u e.symm)];exact f
 have t:Stp (fun a=>a=k) s (s.put k (.loop (lpA v l))):=(zOp q.ok).put (q.ok.lt I) _ (.inr rfl);have M:zAM k none s=some (.bool true,s.put k (.loop (lpA v l))):=by
  simp only[zAM,I,wM,lpA]
 refine⟨_, ?_,by rw[zOl,if_pos rfl],S.stp q.ok t u,⟨t.ok,by have:=t.next;omega,fun a Z o=> ?_⟩⟩
 .have hl:YI [3,5] (lpA v l).live=true:=rfl;have T:(lpA v l).vals=[.ptr v 0, .ptr l 0]:=rfl;simp(maxSteps:=999999)(disch:=omega) only[WZ,eZ,hl,T,zU,H,(y.mono m i V).ld,(z.mono m i W).ld,Y];exact M
 .have L: ¬a=k:=fun e=>o (.inl e)
  have a2: ¬a=B:=fun e=>o (.inr e)
  rw[t.keep a (by omega) L,q.keep a (by omega) a2,i.keep a Z L]
theorem zJe (m:Nat)(U:R≠W)(hb:W<4)(a4:N<=8192):
  ∀d i A (is:Nat->Nat) (H:AH),H.ok->i+d=N->d<A->H.h.get k=some (.loop (lpA v l))->Box H v (.ptr J 0)->Box H l (.int .u8 W)->Box H B (.ptr J 0)->Box H G (.int .u8 R)->Spc H J N Q is->
   ∃H',kL A (bN (dy (m+1)) (m+1)) [.yT k, .ptr B 0, .ptr G 0, .int .i64 i] H=some (.exit 0 [],H')/\H'.h.get k=some (.loop (lpA v l))/\Spc H' J N Q (zBr is R W i N)/\Stp (fun F=>F=k\/F=J) H H':=by
 intro d
 induction d with
 | zero=>
  intro i A is H C hi a0 f y z c3 s q;obtain⟨A,rfl⟩: ∃k',A=k'+1:=⟨A - 1,by omega⟩;obtain⟨c,g,hl,K,c1,V,hn,h1,h2,h4⟩:=id q;have o:ld1 (.ptr J 0) H=some (.int .i64 N):=wN g K;have t: ¬(i:Int)< (N:Int):=by omega
  have a1:i=N:=by omega
  refine⟨H,jZ (by simp(maxSteps:=999999)(disch:=omega) only[bN,eZ,c3.ld,o,t]),f,by rw[a1,zJg];exact q,zOp C⟩
 | succ d ih=>
  intro i A is H C hi a0 f y z c3 s q;obtain⟨A,rfl⟩: ∃k',A=k'+1:=⟨A - 1,by omega⟩;obtain⟨c,g,hl,K,c1,V,hn,h1,h2,h4⟩:=id q;have o:ld1 (.ptr J 0) H=some (.int .i64 N):=wN g K;have t:(i:Int)< (N:Int):=by omega
  have Y:bG 8192 1 (.ptr J 2) (.int .i64 i)=some (.ptr J (2+i)):=v5 8192 J 2 .i64 i rfl (by omega);have Z:ld1 (.ptr J (2+i)) H=some (.int .u8 (is i:Nat)):=wN g (V i (by omega));have hi1:(i:Int)+((1:Nat):Int)=((i+1:Nat):Int):=by omega
  by_cases e:is i=R
  .obtain⟨L,e1,g1,a2,M⟩:=zHk (dy m) m C f y z q (j:=i) (by omega) e U hb;have n3:v≠k:=fun e=>by obtain⟨_,hb⟩:=y;rw[e,f]at hb;cases hb
   have n5:l≠k:=fun e=>by obtain⟨_,hb⟩:=z;rw[e,f]at hb;cases hb
   have m3:B≠k:=fun e=>by obtain⟨_,hb⟩:=c3;rw[e,f]at hb;cases hb
   have m4:G≠k:=fun e=>by obtain⟨_,hb⟩:=s;rw[e,f]at hb;cases hb
   have st: ∀ {I:Nat} {x:AV},Box H I x->I≠k->Box L I x:=fun {I x} hb a3=>hb.mono C M fun e=>by
    rcases e with e | e
    .exact a3 e
    .exact q.nbox hb e
   obtain⟨a,O,nb,u,S⟩:=ih (i+1) A (aZ is i W) L M.ok (by omega) (by omega) g1 (st y n3) (st z n5) (st c3 m3) (st s m4) a2;rw[zJf U (by omega) e]at u;have p:((is i:Nat):Int)=(R:Int):=by omega
   have T:bN (dy (m+1)) (m+1) [.yT k, .ptr B 0, .ptr G 0, .int .i64 i] H=some (.norm [.yT k, .ptr B 0, .ptr G 0, .int .i64 (i+1:Nat)],L):=by
    simp(maxSteps:=999999)(disch:=omega) only[bN,eZ,c3.ld,o,t,Y,Z,s.ld,p,hi1,zO0 m (m+1) f,e1]
   exact⟨a,by rw[kX T];exact O,nb,u,M.trans S⟩
  .have p: ¬((is i:Nat):Int)=(R:Int):=by omega
   have T:bN (dy (m+1)) (m+1) [.yT k, .ptr B 0, .ptr G 0, .int .i64 i] H=some (.norm [.yT k, .ptr B 0, .ptr G 0, .int .i64 (i+1:Nat)],H):=by
    simp(maxSteps:=999999)(disch:=omega) only[bN,eZ,c3.ld,o,t,Y,Z,s.ld,p,hi1]
   obtain⟨a,O,nb,u,S⟩:=ih (i+1) A is H C (by omega) (by omega) f y z c3 s q;rw[zHm e]at u;exact⟨a,by rw[kX T];exact O,nb,u,S⟩
theorem zF4 (m n:Nat)(hm:10000<=m)(N:h.ok){w b:Nat}(Q:Spc h k v l A)(a7:2<=v)(Y:w<4)(hb:b<4)(a2:w≠b):
  ∃H',f117 (dy (m+2)) n [.ptr k 0, .int .u8 w, .int .u8 b] h=some (.tuple [],H')/\Spc H' k v l (zBr A w b 2 v)/\Stp (fun B=>B=k) h H':=by
 obtain⟨c,g,hl,c0,c1,hc,a8,q1,q2,q3⟩:=id Q;obtain⟨H1,o,b1,H,Z,m1,n1⟩:=box N (.cells [.ptr k 0] 36 1 false);obtain⟨H2,q,b2,y,g2,m2,n2⟩:=box H.ok (.cells [.int .u8 b] 141 1 false);have P2:=H.trans y;obtain⟨H3,z,b3,u,g3,m3,n3⟩:=box P2.ok (.cells [.ptr k 0] 36 1 false);obtain⟨H4,C,b4,s,g4,m4,n4⟩:=box u.ok (.cells [.int .u8 w] 141 1 false);obtain⟨a,F,b5,p,g5,m5,n5⟩:=box s.ok (.cells [.int .i64 (0:Nat)] 3 1 false);have j:Prs a (a.push (.loop (lpA o q))):=(zOp p.ok).push _;have S:(a.push (.loop (lpA o q))).h.get a.next=some (.loop (lpA o q)):=zOh _ _
 have W: ∀K:Nat->AH->Rs,B7 a (.loop ⟨.ready,none,117,0,[3,5],[.ptr o 0, .ptr q 0]⟩) K=K a.next (a.push (.loop (lpA o q))):=fun K=>X8 p.ok _ K
 generalize a.push (.loop (lpA o q))=H6 at j S W;have P5:=((P2.trans u).trans s).trans p;have P6:=P5.trans j;have N1:=H.next;have N2:=y.next;have N3:=u.next;have N4:=s.next;have N5:=p.next;have N6:=j.next
 have lS:=Q.lt N;have x3:Box H2 o (.ptr k 0):=⟨_,zOs y H.ok Z⟩;have y3:Box H6 o (.ptr k 0):=⟨_,zOs ((((y.trans u).trans s).trans p).trans j) H.ok Z⟩;have y5:Box H6 q (.int .u8 b):=⟨_,zOs (((u.trans s).trans p).trans j) y.ok g2⟩;have T:Box H6 z (.ptr k 0):=⟨_,zOs ((s.trans p).trans j) u.ok g3⟩;have U:Box H6 C (.int .u8 w):=⟨_,zOs (p.trans j) s.ok g4⟩;have z5:Box H6 F (.int .i64 (0:Nat)):=⟨_,zOs j p.ok g5⟩;have J:=Q.stp N P6 (fun x=>x);have a0:f168 (dy (m+2)) n [.ptr k 0, .int .u8 w, .int .i64 (0:Nat)] H2=some (.func 207 [] [.ptr z 0, .ptr C 0, .ptr F 0],a):=by
  simp only[f168,eZ,cbx,b3,b4,b5]
 have run: ∃i,f207 (dy (m+1)) (m+1) [.yT a.next, .ptr z 0, .ptr C 0, .ptr F 0] H6=some (.tuple [],i)/\i.h.get a.next=some (.loop (lpA o q))/\Spc i k v l (zBr A w b 2 v)/\Stp (fun B=>B=a.next\/B=k) H6 i:=by
  have r1:ld1 (.ptr k (8194+w)) H6=some (.int .i64 (cnt A w v:Nat)):=by
   obtain⟨c',g',_,_,_,_,a3,_⟩:=J;exact wN g' (a3 w Y)
  have i1:bG 4 1 (.ptr k 8194) (.int .u8 w)=some (.ptr k (8194+w)):=v5 4 k 8194 .u8 w rfl Y;by_cases h0:cnt A w v=0
  .have L:((cnt A w v:Nat):Int)=((0:Nat):Int):=by omega
   refine⟨H6, ?_,S,by rw[zHl h0];exact J,zOp j.ok⟩;simp(maxSteps:=999999)(disch:=omega) only[f207,eZ,T.ld,U.ld,i1,r1,L]
  .have L: ¬((cnt A w v:Nat):Int)=((0:Nat):Int):=by omega
   obtain⟨i,V,G,M,t⟩:=zJe m a2 hb q1 (v - 2) 2 (m+1) A H6 j.ok (by omega) (by omega) S y3 y5 T U J;refine⟨i, ?_,G,M,t⟩;have a4:mx2 (.int .i64 (1:Nat)) (.int .i64 (2:Nat))=some (.int .i64 (2:Nat)):=rfl;have a5:((0:Nat):Int)+((1:Nat):Int)=((1:Nat):Int):=by omega
   simp(maxSteps:=999999)(disch:=omega) only[f207,eZ,T.ld,U.ld,i1,r1,L,z5.ld,a5,a4,V,zGf]
 obtain⟨i,V,G,M,t⟩:=run;have I:Stp (fun B=>B=a.next) i (i.put a.next .dead):=(zOp t.ok).put (t.ok.lt G) _ (.inr rfl)
 have a1: ∀K:Option Code->AH->Rs,aH a.next i K=K none (i.put a.next .dead):=fun K=>by
  simp only[aH,G,lpA,wM]
 have a6:rfC [(168,f168 (dy (m+2)) n),(86,f86 (dy (m+2)) n)] (dy (m+2)) (.func 207 [] [.ptr z 0, .ptr C 0, .ptr F 0]) a.next H6=some (.tuple [],i):=V
 have N7:=t.next;have N8:=I.next
 refine⟨_, ?_,M.stp t.ok I (by omega),⟨I.ok,by omega,fun B hB hS=> ?_⟩⟩
 .simp(maxSteps:=999999)(disch:=omega) only[f117,eZ,cbx,b1,b2,x3.ld,a0,W,a6,a1,zEk]
 .rw[I.keep B (by omega) (by omega),t.keep B (by omega) (fun e=>by rcases e with e | e;omega;exact hS e),P6.keep B hB (fun x=>x)]
theorem zEY (m n:Nat)(hm:10000<=m)(p:h.ok)(q:Spc h k v l A)(f:2<=v):
  ∃H',f71 (dy (m+2)) n [.ptr k 0] h=some (.tuple [],H')/\Spc H' k v l (stlS A v)/\Stp (fun B=>B=k) h H':=by
 obtain⟨x,s,j,i⟩:=zF4 m n hm p q f (w:=3) (b:=0) (by omega) (by omega) (by omega);obtain⟨t,u,o,H⟩:=zF4 m n hm i.ok j f (w:=2) (b:=1) (by omega) (by omega) (by omega);refine⟨t, ?_,o,i.trans H⟩;simp(maxSteps:=999999)(disch:=omega) only[f71,eZ,cq,s,u,zNz]
open Go.Nd (Ptr Str)
theorem zO2(q:1000<=n)(C:h.ok)(kind:UInt8){at_:Nat}(S:1<=at_)(Q:at_<8192)(hb:k<=2147483647){body:Str}(hl:body.length<=500):
  ∃H',f196 D n [.int .i64 at_, .agg (jQ (sealB kind k body))] h=some (.tuple [.agg (jV (bT at_ k (sealB kind k body))), .int .i64 (0:Nat)],H')/\Prs h H':=by
 obtain⟨B,j⟩: ∃B,B=sealB kind k body:=⟨_,rfl⟩;have H:=sealB_len (kind:=kind) (birth:=k) hl;rw[<-j]at H;obtain⟨T,U,b1,m,F,V,W⟩:=box C (.cells (jQ B) 55 1 false);obtain⟨Y,A4,b2,a,G,Z,n2⟩:=box m.ok (.cells [.int .i64 (0:Nat), .int .i64 (0:Nat), .int .u64 (0:Nat)] 42 1 false);have p:=zOs a m.ok F;obtain⟨H3,s,f⟩:=zFv D n q a.ok kind hb hl;rw[<-j]at s⊢;obtain⟨I,J,i⟩:=zH7 D n q f.ok H;have t:=zOs (f.trans i) a.ok G;have u:=zOs f a.ok p;obtain⟨o,K,L,M,n5⟩:=kD i.ok t (l':=jV (bT at_ k B)) rfl rfl;have v:stN 3 (.ptr A4 0) (.agg (jV (bT at_ k B))) I=some (jT,o):=K;have N:=ldR p H;have x:=ldR u H;have O:ldN 3 (.ptr A4 0) o=some (.agg (jV (bT at_ k B))):=xJ L rfl;have y: ¬(((0:Nat):Int)≠((0:Nat):Int)):=by omega
 have t1: ¬(at_:Int)< ((1:Nat):Int):=by omega
 have t2: ¬((8192:Nat):Int)<=(at_:Int):=by omega
 have z:uD [(0,1),(1,1),(2,1)] [.int .i64 (0:Nat), .int .i64 (0:Nat), .int .u64 (0:Nat)] [(0, .int .i64 at_),(1, .int .i64 k),(2, .int .u64 (WM B:Nat))]=some (.agg (jV (bT at_ k B))):=rfl;have N2:=a.next;have N3:=f.next;have N4:=i.next
 refine⟨o, ?_,(((m.trans a).trans f).trans i).fresh M fun B j=>by omega⟩;simp(maxSteps:=999999)(disch:=omega) only[f196,eZ,b1,b2,N,s,jR,nth,y,t1,t2,x,J,z,v,O]
structure Wr (E:Ev)(H:AH)(Aw As At M Ad:Nat)(c:AV)(txg left la:Nat)(is:Nat->Nat)(root:Ptr)(es:List (AV×AV))(q:PN)(last:Nat)(dr:AV)(Z P:Nat->Prop):Prop where
 ti:TI E H At M (.ptr Ad 0) c root es q last dr
 sp:Spc H As E.nb la is
 few:E.ws.length+cnt is 0 E.nb<=990000
 gw: ∃On Nw wv ds tv ov nt tl ol,DkI H Ad E.nb E.ws On Nw wv ds/\H.h.get Aw=some (.cells [.ptr At 0, .ptr As 0, .int .i64 txg, .int .i64 left,tv,ov] 198 1 false)/\Own 1 3 H tv nt tl/\Own 513 202 H ov nt ol/\nt<=E.ws.length/\(∀B,Z B↔B=Aw\/B=As\/B=Ad\/B=Nw\/Blk wv B\/Blk tv B\/Blk ov B)/\ ¬Z On
 pr: ∀B,P B-> ¬Z B
 pa: ∀B,P B↔B=At\/B=M\/Blk dr B\/ ∃kv∈es,vU kv.2 B
 bd:2<=la\/la=0
 nb:64<=E.nb/\E.nb<=8192/\la<E.nb
 s0:is 0≠0/\is 1≠0
 lf:left<=1000000000
theorem Wr.lt {E:Ev}{H:AH}{i j m M o:Nat}{c:AV}{txg left p:Nat}{is:Nat->Nat}{root:Ptr}{es:List (AV×AV)}{q:PN}{h:Nat}{s:AV}{Z P:Nat->Prop}(w:Wr E H i j m M o c txg left p is root es q h s Z P): ∀B,Z B->B<H.next:=by
 obtain⟨z,C,F,G,I,J,nt,K,L,f,t,u,v,_,x,_⟩:=w.gw;have a:=w.ti.ok;intro B y;rcases(x B).1 y with rfl | rfl | rfl | rfl | e | e | e
 .exact a.lt t
 .exact w.sp.lt a
 .exact a.lt f.gD
 .exact a.lt f.gN
 .exact Own.lt f.ow e
 .exact Own.lt u e
 .exact Own.lt v e
theorem Wr.prs {E:Ev}{H H':AH}{f h i M j:Nat}{c:AV}{txg left m:Nat}{is:Nat->Nat}{root:Ptr}{es:List (AV×AV)}{q:PN}{a:Nat}{o:AV}{Z P:Nat->Prop}(w:Wr E H f h i M j c txg left m is root es q a o Z P)(s:Prs H H'):Wr E H' f h i M j c txg left m is root es q a o Z P:=by
 obtain⟨p,t,u,v,y,z,nt,C,F,G,I,J,K,L,N,O⟩:=w.gw;exact⟨w.ti.prs s,w.sp.stp w.ti.ok s fun x=>x,w.few,⟨p,t,u,v,y,z,nt,C,F,G.prs w.ti.ok s,zOs s w.ti.ok I,J.mono s fun _ _ x=>x,K.mono s fun _ _ x=>x,L,N,O⟩,w.pr,w.pa,w.bd,w.nb,w.s0,w.lf⟩
theorem TI.wr {E:Ev}{H H':AH}{h M i:Nat}{root:Ptr}{es:List (AV×AV)}{q:PN}{o:Nat}{j:AV}{Z:Nat->Prop}(a:TI E H h M (.ptr i 0) .nP root es q o j)(s:Stp Z H H')(f: ∀B,(B=h\/B=M\/Blk j B\/ ∃kv∈es,vU kv.2 B)-> ¬Z B){ws:Ws}{t u:Nat}{v:AV}{x:List (AV×AV)}(y:DkI H' i E.nb ws t u v x):TI { E with ws:=ws} H' h M (.ptr i 0) .nP root es q o j:=
 ⟨s.ok,by rw[s.keep _ (a.ok.lt a.gT) (f _ (.inl rfl))];exact a.gT,by rw[s.keep _ (a.ok.lt a.gM) (f _ (.inr (.inl rfl)))];exact a.gM,a.pq.frame fun kv p F z=>z.stp s fun A m=>f _ (.inr (.inr (.inr ⟨kv,p,m⟩))),⟨_,_,_,_,_,rfl,y⟩, .inl rfl,a.dg.mono s fun A m=>f _ (.inr (.inr (.inl m))),a.ds,a.few,fun B C=>qJ (a.xl B C) s.next⟩
theorem uB.old {H:AH} : ∀ {es:List (AV×AV)} {q:PN},uB H es q-> ∀kv∈es,∀B,vU kv.2 B->B<H.next
 | [],[],_=>fun _ h=>by simp at h
 | (k,v)::es,(s,nd)::q,h=>fun kv a B f=>by
  rcases zO.1 a with rfl | a
  .exact h.1.2.lt f
  .exact uB.old h.2 kv a B f
 | [],_::_,h=>h.elim
 | _::_,[],h=>h.elim
theorem Wr.old {E:Ev}{H:AH}{h i j M m:Nat}{c:AV}{txg left o:Nat}{is:Nat->Nat}{root:Ptr}{es:List (AV×AV)}{q:PN}{a:Nat}{p:AV}{Z P:Nat->Prop}(w:Wr E H h i j M m c txg left o is root es q a p Z P): ∀B,P B->B<H.next:=fun B s=>by
 rcases(w.pa B).1 s with rfl | rfl | e | ⟨kv,f,e⟩
 .exact w.ti.ok.lt w.ti.gT
 .exact w.ti.ok.lt w.ti.gM
 .exact w.ti.dg.lt e
 .exact w.ti.pq.old kv f B e
theorem Spc.bk (H:Spc h k v l A): ∃c,h.h.get k=some (.cells c 145 1 false):=by
 obtain⟨c,g,_⟩:=H;exact⟨c,g⟩
theorem jY {o p:AObj}(H:h.h.get k=some o)(A:h.h.get v=some p)(e:o≠p):k≠v:=fun x=>by
 rw[x,A]at H;exact e (y6 H).symm
theorem zKl (m n:Nat)(hm:10000<=m)(hn:1000<=n)(b9:Wr a h k v l B G .nP J N Q A C H e R p w f)
  (kind:UInt8)  (hb:W<=2147483647) {body:Str} (hl:body.length<=500) (hf:0<cnt A 0 a.nb):
  ∃H' j Z',zNJ (dy (m+2)) n [.ptr k 0, .agg (jQ (sealB kind W body))] h=some (.tuple [.agg (jV (bT j W (sealB kind W body))), .int .i64 (0:Nat)],H')/\2<=j/\j<a.nb/\A j=0/\
   Wr { a with ws:=a.ws++[(j,sealB kind W body)] } H' k v l B G .nP J N j (aZ A j 2) C H e R p Z' f/\AdT w h Z' H':=by
 obtain⟨b,E⟩: ∃b,b=sealB kind W body:=⟨_,rfl⟩;have a0:=sealB_len (kind:=kind) (birth:=W) hl;rw[<-E]at a0;obtain⟨V,F,wv,ds,L,la,nt,tl,ol,dr,t,Z,O,k3,hZ,hO⟩:=b9.gw;have s:=b9.ti.ok;obtain⟨sc,gS⟩:=b9.sp.bk;obtain⟨f2,f3,f4⟩:=b9.nb;have a6:k≠v:=fun q=>by
  obtain⟨c,g,l8,_⟩:=b9.sp;rw[<-q,t]at g;simp only[zC,AObj.cells.injEq]at g;rw[<-g.1]at l8;simp at l8
 have a7:k≠G:=jY t dr.gD (by simp);have a8:k≠F:=jY t dr.gN (by simp);have a9:k≠V:=jY t dr.gO (by simp);have b0: ¬Blk wv k:=fun i=>jY t (dr.ow.get i) (by simp) rfl
 have f5: ¬Blk L k:=fun i=>jY t (zOw Z i) (by simp) rfl
 have c2: ¬Blk la k:=fun i=>jY t (zOw O i) (by simp) rfl
 have c3:v≠G:=jY gS dr.gD (by simp);have c4:v≠F:=jY gS dr.gN (by simp);have c5:v≠V:=jY gS dr.gO (by simp);have c6: ¬Blk wv v:=fun i=>jY gS (dr.ow.get i) (by simp) rfl
 have c7: ¬Blk L v:=fun i=>jY gS (zOw Z i) (by simp) rfl
 have c8: ¬Blk la v:=fun i=>jY gS (zOw O i) (by simp) rfl
 have f6: ¬Blk L G:=fun i=>jY dr.gD (zOw Z i) (by simp) rfl
 have c9: ¬Blk la G:=fun i=>jY dr.gD (zOw O i) (by simp) rfl
 have f7: ¬Blk L F:=fun i=>jY dr.gN (zOw Z i) (by simp) rfl
 have d0: ¬Blk la F:=fun i=>jY dr.gN (zOw O i) (by simp) rfl
 have f8: ¬Blk L V:=fun i=>jY dr.gO (zOw Z i) (by simp) rfl
 have f9: ¬Blk la V:=fun i=>jY dr.gO (zOw O i) (by simp) rfl
 have g0: ∀y,Blk wv y-> ¬Blk L y:=fun y i K=>jY (dr.ow.get i) (zOw Z K) (by simp) rfl
 have d1: ∀y,Blk wv y-> ¬Blk la y:=fun y i K=>jY (dr.ow.get i) (zOw O K) (by simp) rfl
 have g3: ∀y,Blk L y-> ¬Blk la y:=fun y i K=>jY (zOw Z i) (zOw O K) (by simp) rfl
 have zA:w k:=(hZ k).2 (.inl rfl);have zS:w v:=(hZ v).2 (.inr (.inl rfl));have zD:w G:=(hZ G).2 (.inr (.inr (.inl rfl)));have zN:w F:=(hZ F).2 (.inr (.inr (.inr (.inl rfl))));have zw: ∀y,Blk wv y->w y:=fun y i=>(hZ y).2 (.inr (.inr (.inr (.inr (.inl i)))))
 have zt: ∀y,Blk L y->w y:=fun y i=>(hZ y).2 (.inr (.inr (.inr (.inr (.inr (.inl i))))))
 have zo: ∀y,Blk la y->w y:=fun y i=>(hZ y).2 (.inr (.inr (.inr (.inr (.inr (.inr i))))))
 obtain⟨H1,A3,b1,p1,g1,m1,n1⟩:=box s (.cells (jQ b) 55 1 false);obtain⟨H2,A4,b2,p2,g2,m2,n2⟩:=box p1.ok (.cells [.int .i64 (0:Nat), .int .i64 (0:Nat), .int .u64 (0:Nat)] 42 1 false);have P2:=p1.trans p2;have N1:=p1.next;have N2:=p2.next
 have zl:=b9.lt;obtain⟨H3,j,e3,j2,jn,j0,g5,txg⟩:=zHU m n hm (by omega) p2.ok (b9.sp.stp s P2 (fun x=>x)) f4 (by omega) b9.s0.1 b9.s0.2 hf;have N3:=txg.next
 have d2: ∀ {root:Nat} {o:AObj},h.h.get root=some o->root≠v->H3.h.get root=some o:=fun {root o} g i=>by
  rw[txg.keep root (by have:=s.lt g;omega) i];exact zOs P2 s g
 have d3:=d2 t a6;have g7:Own 1 3 H3 L nt tl:=(Z.mono P2 fun _ _ x=>x).mono txg fun y E q=>c7 (q▸E)
 obtain⟨H4,A5,b4,I,g4,m4,n4⟩:=box txg.ok (.cells [.int .i64 ((j:Nat):Int)] 3 1 false);have N4:=I.next
 have e1:srcOf 1 (.slice A5 0 1 2) H4=some (1,[.int .i64 ((j:Nat):Int)]):=by simp only[srcOf,g4];rfl
 have k4:=b9.few;have k5:=dr.few;obtain⟨H5,e5,g9,is,n5⟩:=bD (bytes:=8) (m:=1) I.ok (by decide) (g7.mono I fun _ _ x=>x) e1 rfl rfl (by omega) (by omega) (by decide);have N5:=is.next
 have h0:=zOs I txg.ok d3;have h4:H5.h.get k=_:=(is.keep _ (by have:=s.lt t;omega) f5).trans h0;obtain⟨Y,e6,g6,S,n6⟩:=xT is.ok h4 (o:=4) (x:= .slice H4.next 0 (nt+1) 1) rfl (by simp)
 have N6:=S.next
 have a5: ∀ {root:Nat} {o:AObj},h.h.get root=some o->root≠v->root≠k-> ¬Blk L root->Y.h.get root=some o:=fun {root o} g h1 h2 h3=>by
  have:=s.lt g;rw[S.keep root (by omega) h2,is.keep root (by omega) h3];exact zOs I txg.ok (d2 g h1)
 have h5:DkI Y G a.nb a.ws V F wv ds:=by
  refine⟨a5 dr.gD c3.symm a7.symm f6,a5 dr.gO c5.symm a9.symm f8,a5 dr.gN c4.symm a8.symm f7, ?_,dr.nw,dr.ln,dr.few,dr.ne⟩;exact((((dr.ow.mono P2 fun _ _ x=>x).mono txg fun y E q=>c6 (q▸E)).mono I fun _ _ x=>x).mono is fun y E K=>g0 y E K).mono S fun y E q=>b0 (q▸E)
 obtain⟨H7,b3,d4,e7,h6,z,a3⟩:=zE8 (dy (m+2)) n S.ok h5 jn a0 (by omega);have N7:=z.next
 have d5:Y.h.get k=_:=g6;have d6:H7.h.get k=_:=(z.keep _ (by have:=s.lt t;omega) (fun q=>by rcases q with q | q | q;exact a7 q;exact a8 q;exact b0 q)).trans d5;obtain⟨Z0,d7⟩: ∃Z0:Str,Z0=List.replicate 512 0:=⟨_,rfl⟩;have h7:rep 512 [AV.int .u8 (0:Nat)]=jQ Z0:=by rw[cV,d7]
 have h8:(jQ Z0).length=512:=by rw[jW,d7];exact List.length_replicate
 have b5:(jQ b).length=512:=by rw[jW,a0]
 obtain⟨q1,q2⟩:=zH8 202 (x:= .int .i64 ((j:Nat):Int)) (c:= .int .i64 (0:Nat)) h8 b5 rfl;obtain⟨H8,A6,b8,left,g8,m8,n8⟩:=box z.ok (.cells (.int .i64 ((j:Nat):Int)::jQ b) 202 513 false);have N8:=left.next
 have e2:srcOf 513 (.slice A6 0 1 2) H8=some (1,wV (j,b)):=by
  have h9:uP (AV.int .i64 ((j:Nat):Int)::jQ b) 0 (1*513)=some (wV (j,b)):=by
   rw[kV _ _ _ (.inr (by simp[b5])),y9,zZ (by simp[b5])];rfl
  simp only[srcOf,g8,h9]
 have i0:Own 513 202 Y la nt ol:=((((O.mono P2 fun _ _ x=>x).mono txg fun y E q=>c8 (q▸E)).mono I fun _ _ x=>x).mono is fun y E K=>g3 y K E).mono S fun y E q=>c2 (q▸E)
 have i1:Own 513 202 H7 la nt ol:=i0.mono z fun y E q=>by
  rcases q with q | q | q
  .exact c9 (q▸E)
  .exact d0 (q▸E)
  .exact d1 y q E
 have i2:jS (wV (j,b))=true:=by
  have:=bytesV_cells b;simp only[wV,jS,this];rfl
 obtain⟨H9,e9,i3,T,n9⟩:=bD (bytes:=520) (m:=1) left.ok (by decide) (i1.mono left fun _ _ x=>x) e2 (by rw[zCe a0]) i2 (by omega) (by omega) (by decide);have N9:=T.next
 have i4:H9.h.get k=_:=(T.keep _ (by have:=s.lt t;omega) c2).trans (zOs left z.ok d6);obtain⟨i5,i6,i7,M,k6⟩:=xT T.ok i4 (o:=5) (x:= .slice H8.next 0 (nt+1) 1) rfl (by simp)
 have k7:=M.next
 obtain⟨i8,d8,es⟩:=zO2 (dy (m+2)) n hn M.ok kind (at_:=j) (by omega) (by omega) hb hl;rw[<-E]at d8;have k8:=es.next
 have d9: ∀ {root:Nat} {o:AObj},H2.h.get root=some o->h.next<=root->Y.h.get root=some o:=fun {root o} g i=>by
  have:=p2.ok.lt g;rw[S.keep root (by omega) (by have:=s.lt t;omega),is.keep root (by omega) (fun E=>by have:=Own.lt Z E;omega),I.keep root (by omega) (fun x=>x),txg.keep root (by omega) (by have:=s.lt gS;omega)];exact g
 have b6:=d9 (zOs p2 p1.ok g1) (by omega);have i9:=d9 g2 (by omega);have z6: ∀y,(y=G\/y=F\/Blk wv y)->y<h.next:=fun y E=>by
  rcases E with q | q | q
  .exact zl y (q▸zD)
  .exact zl y (q▸zN)
  .exact zl y (zw y q)
 have e0: ∀ {root:Nat} {o:AObj},Y.h.get root=some o->h.next<=root->root<H3.next->i5.h.get root=some o:=fun {root o} g i h3=>by
  rw[M.keep root (by omega) (by have:=s.lt t;omega),T.keep root (by omega) (fun E=>by have:=Own.lt O E;omega),left.keep root (by omega) (fun x=>x),z.keep root (by omega) (fun E=>by have:=z6 root E;omega)];exact g
 have c0:=e0 b6 (by omega) (by omega);have e4:=zOs es M.ok (e0 i9 (by omega) (by omega));obtain⟨a4,j1,j3,U,k9⟩:=kD es.ok e4 (l':=jV (bT j W b)) rfl rfl;have e8:stN 3 (.ptr A4 0) (.agg (jV (bT j W b))) i8=some (jT,a4):=j1;have l0:=U.next
 have j4:ldN 3 (.ptr A4 0) a4=some (.agg (jV (bT j W b))):=xJ j3 rfl;have j5:=ldR b6 a0;have l1:H9.h.get A3=some (.cells (jQ b) 55 1 false):=by
  rw[<-M.keep A3 (by omega) (by have:=s.lt t;omega)];exact c0
 have j6:H7.h.get A3=some (.cells (jQ b) 55 1 false):=by
  rw[z.keep A3 (by omega) (fun E=>by have:=z6 A3 E;omega)];exact b6
 have f1:=ldR c0 a0;have j7:=ldR j6 a0;have j8:=zOs P2 s t;have w1:Eng.ld1 (.ptr k 1) H2=some (.ptr v 0):=by rw[jP j8];rfl
 have w4:Eng.ld1 (.ptr k 4) H3=some L:=by rw[jP d3];rfl
 have w0:Eng.ld1 (.ptr k 0) Y=some (.ptr l 0):=by rw[jP d5];rfl
 have w5:Eng.ld1 (.ptr k 5) H7=some la:=by rw[jP d6];rfl
 have b7:f l:=(b9.pa l).2 (.inl rfl);have j9:Y.h.get l=_:=a5 b9.ti.gT (fun q=>b9.pr l b7 (q▸zS)) (fun q=>b9.pr l b7 (q▸zA)) (fun q=>b9.pr l b7 (zt l q));have wT:Eng.ld1 (.ptr l 0) Y=some (.ptr G 0):=by rw[jP j9];rfl
 have k0: ¬(((0:Nat):Int)≠((0:Nat):Int)):=by omega
 refine⟨a4,j,fun y=>y=k\/y=v\/y=G\/y=F\/Blk b3 y\/Blk (.slice H4.next 0 (nt+1) 1) y\/Blk (.slice H8.next 0 (nt+1) 1) y, ?_,j2,jn,j0, ?_, ?_⟩
 .rw[<-E];simp(maxSteps:=999999)(disch:=omega) only[zNJ,eZ,b1,b2,w1,e3,jR,nth,k0,w4,zKP 3 (.int .i64 (0:Nat)) (show isCell (.int .i64 ((j:Nat):Int))=true from rfl),b4,e5,e6,w0,wT,j5,e7,w5,j7,h7,qF,yA,q1,q2,b8,e9,i6,f1,d8,e8,j4]
 ·
  have l2:=s.lt t;have l3:=s.lt gS;have c1:DkI a4 G a.nb (a.ws++[(j,sealB kind W body)]) V F b3 d4:=by
   rw[<-E];have lD:=zl G zD;have lN:=zl F zN;have lO:=s.lt dr.gO;refine((((h6.prs z.ok left).stp left.ok T c9 f9 d0 fun y hb hx=> ?_).stp T.ok M a7.symm a9.symm a8.symm fun y hb hx=> ?_).prs M.ok es).stp es.ok U (by omega) (by omega) (by omega) fun y hb hx=> ?_
   .rcases a3 y hb with x | x
    .exact d1 y x hx
    .have:=Own.lt O hx;omega
   .rcases a3 y hb with x | x
    .exact b0 (hx▸x)
    .omega
   .rcases a3 y hb with x | x
    .have:=zl y (zw y x);omega
    .omega
  have st:Stp w h a4:=⟨U.ok,by omega,fun y E u=>by
   have a1:y≠k:=fun q=>u (q▸zA)
   have a2:y≠v:=fun q=>u (q▸zS)
   rw[U.keep y (by omega) (by omega),es.keep y (by omega) (fun x=>x),M.keep y (by omega) a1,T.keep y (by omega) (fun i=>u (zo y i)),left.keep y (by omega) (fun x=>x),z.keep y (by omega) (fun i=>by rcases i with q | q | q;exact u (q▸zD);exact u (q▸zN);exact u (zw y q)),S.keep y (by omega) a1,is.keep y (by omega) (fun i=>u (zt y i)),I.keep y (by omega) (fun x=>x),txg.keep y (by omega) a2,P2.keep y E (fun x=>x)]⟩
  obtain⟨k1,k2⟩:=(KM (b:=2) j0 (by omega) (n:=a.nb)).1 jn;refine⟨b9.ti.wr st (fun y E=>b9.pr y ((b9.pa y).2 E)) c1, ?_, ?_,⟨V,F,b3,d4,_,_,nt+1,tl++[.int .i64 ((j:Nat):Int)],ol++wV (j,b),c1, ?_, ?_, ?_, ?_,fun y=>Iff.rfl, ?_⟩,fun y E hx=> ?_,b9.pa, .inl j2,⟨f2,f3,jn⟩, ?_,b9.lf⟩
  .refine((((((((g5.stp txg.ok I fun x=>x).stp I.ok is c7).stp is.ok S a6.symm).stp S.ok z fun q=> ?_).stp z.ok left fun x=>x).stp left.ok T c8).stp T.ok M a6.symm).stp M.ok es fun x=>x).stp es.ok U (by omega);rcases q with q | q | q
   .exact c3 q
   .exact c4 q
   .exact c6 q
  .simp only[zV,jF];omega
  .rw[U.keep k (by omega) (by omega)];exact zOs es M.ok i7
  .refine((((((g9.mono S fun y hb q=> ?_).mono z fun y hb q=> ?_).mono left fun _ _ x=>x).mono T fun y hb q=> ?_).mono M fun y hb q=> ?_).mono es fun _ _ x=>x).mono U fun y hb q=> ?_
   all_goals rw[zOm.1 hb]at q
   .omega
   .have:=z6 _ q;omega
   .have:=Own.lt O q;omega
   .omega
   .omega
  .refine((i3.mono M fun y hb q=> ?_).mono es fun _ _ x=>x).mono U fun y hb q=> ?_
   all_goals rw[zOm.1 hb]at q;omega
  .simp only[zV,jF];omega
  .intro i;have lO:=s.lt dr.gO;rcases i with q | q | q | q | q | q | q
   .exact a9 q.symm
   .exact c5 q.symm
   .exact hO (q▸zD)
   .exact dr.ne q
   .rcases a3 V q with x | x
    .exact hO (zw V x)
    .omega
   .rw[zOm.1 q]at lO;omega
   .rw[zOm.1 q]at lO;omega
  .have lP:=b9.old y E;have hn:=b9.pr y E;rcases hx with q | q | q | q | q | q | q
   .exact hn (q▸zA)
   .exact hn (q▸zS)
   .exact hn (q▸zD)
   .exact hn (q▸zN)
   .rcases a3 y q with x | x
    .exact hn (zw y x)
    .omega
   .rw[zOm.1 q]at lP;omega
   .rw[zOm.1 q]at lP;omega
  .rw[vH (by omega),vH (by omega)];exact b9.s0
 .refine⟨⟨U.ok,by omega,fun y E u=> ?_⟩,fun y hx=> ?_⟩
  .have a1:y≠k:=fun q=>u (q▸zA)
   have a2:y≠v:=fun q=>u (q▸zS)
   rw[U.keep y (by omega) (by omega),es.keep y (by omega) (fun x=>x),M.keep y (by omega) a1,T.keep y (by omega) (fun i=>u (zo y i)),left.keep y (by omega) (fun x=>x),z.keep y (by omega) (fun i=>by rcases i with q | q | q;exact u (q▸zD);exact u (q▸zN);exact u (zw y q)),S.keep y (by omega) a1,is.keep y (by omega) (fun i=>u (zt y i)),I.keep y (by omega) (fun x=>x),txg.keep y (by omega) a2,P2.keep y E (fun x=>x)]
  .rcases hx with q | q | q | q | q | q | q
   .exact .inl (q▸zA)
   .exact .inl (q▸zS)
   .exact .inl (q▸zD)
   .exact .inl (q▸zN)
   .rcases a3 y q with x | x
    .exact .inl (zw y x)
    .exact .inr (by omega)
   .rw[zOm.1 q];exact .inr (by omega)
   .rw[zOm.1 q];exact .inr (by omega)
open Go.Bt
theorem zIN (p:Ptr)(l:List Ptr):dsk (p::l)=if p.at_=1 then dsk l else p::dsk l:=by
 by_cases e:p.at_=1<;>simp[dsk,e]
theorem UG  :C∈dsk i↔C∈i/\C.at_≠1:=by simp[dsk]
theorem Ev.K_keep {E:Ev}(h:E.K C=some q)(hb:blkAt C.at_.toNat c=blkAt C.at_.toNat E.ws):Ev.K { E with ws:=c} C=some q:=by
 obtain⟨a,birth,kind,body,rfl,i,j,m,o,p,h6,ws',s⟩:=zOo.1 h;refine zOo.2 ⟨a,birth,kind,body,rfl,i,j,m,o,p, ?_,ws',s⟩;have e:(bT a birth (sealB kind birth body)).at_.toNat=a:=by simp[bT]
 rw[e]at hb;exact hb.trans h6
structure WOut (nb:Nat)(ws ws':Ws)(is is':Nat->Nat)(T T':List Ptr):Prop where
 pm: ∃news,T'.Perm (dsk T++news)/\news.Nodup/\news.length=cp T/\ ∀r∈news,2<=r.at_/\is r.at_.toNat=0/\is' r.at_.toNat≠0
 up: ∀i,is' i=is i\/(is i=0/\is' i=2)
 ct:cnt is' 0 nb+cp T=cnt is 0 nb
 bk: ∀a,is a≠0->blkAt a ws'=blkAt a ws
 ln:ws'.length=ws.length+cp T
theorem WOut.nil (nb:Nat)(a:Ws)(is:Nat->Nat){T:List Ptr}(h: ∀r∈T,r.at_≠1):WOut nb a a is is T T:=by
 have e:dsk T=T:=List.filter_eq_self.2 fun p hp=>by simpa using h p hp
 have c:cp T=0:=by
  rw[cp,List.length_eq_zero_iff];exact List.filter_eq_nil_iff.2 fun p hp=>by simpa using h p hp
 exact⟨⟨[],by simp[e],by simp,by rw[c];rfl,by simp⟩,fun _=> .inl rfl,by omega,fun _ _=>rfl,by omega⟩
theorem WOut.nz {ws':Ws}(w:WOut k c ws' A j i M)(h:A v≠0):j v≠0:=by
 rcases w.up v with e | ⟨e,_⟩<;>omega
theorem WOut.used {ws':Ws}(w:WOut k c ws' A j i M)(h: ∀r∈i,r.at_≠1->A r.at_.toNat≠0): ∀r∈M,r.at_≠1/\j r.at_.toNat≠0:=fun r hr=>by
 obtain⟨s,p,_,_,m⟩:=w.pm;rcases qB.1 (p.mem_iff.1 hr)with e | e
 .obtain⟨o,nb⟩:=UG.1 e;exact⟨nb,w.nz (h r o nb)⟩
 .obtain⟨t,_,q⟩:=m r e;exact⟨by omega,q⟩
theorem WOut.app {m o:Ws}{q:Nat->Nat}{u:List Ptr}(w:WOut k c m A j i M)(v:WOut k m o j q r u):WOut k c o A q (i++r) (M++u):=by
 obtain⟨G,I,J,K,z⟩:=w.pm;obtain⟨L,p,N,O,C⟩:=v.pm;refine⟨⟨G++L, ?_, ?_,by rw[cO,zV,K,O],fun T hr=> ?_⟩,fun is=> ?_, ?_,fun a f=> ?_, ?_⟩
 .rw[zC1];refine(I.append p).trans ?_;rw[List.perm_iff_count];intro a;simp only[List.count_append];omega
 .refine List.nodup_append.2 ⟨J,N,fun a f b hb e=> ?_⟩;subst e;exact(z a f).2.2 (C a hb).2.1
 .rcases qB.1 hr with e | e
  .obtain⟨h,F,s⟩:=z T e;exact⟨h,F,v.nz s⟩
  .obtain⟨h,F,s⟩:=C T e;refine⟨h, ?_,s⟩;rcases w.up T.at_.toNat with x | ⟨x,y⟩
   .omega
   .exact x
 .rcases w.up is with a | ⟨a,b⟩<;>rcases v.up is with nb | ⟨nb,d⟩
  .exact .inl (by omega)
  .exact .inr ⟨by omega,d⟩
  .exact .inr ⟨a,by omega⟩
  .omega
 .have:=w.ct;have:=v.ct;rw[cO];omega
 .rw[v.bk a (w.nz f),w.bk a f]
 .have:=w.ln;have:=v.ln;rw[cO];omega
theorem WOut.put {m:Ws}{o:List Ptr}(w:WOut k c m A j i o){s birth:Nat}{b:Str}(y:2<=v)(jn:v<k)(p:j v=0):WOut k c (m++[(v,b)]) A (aZ j v 2) (pp s::i) (bT v birth b::o):=by
 have u:WOut k m (m++[(v,b)]) j (aZ j v 2) [pp s] [bT v birth b]:=by
  obtain⟨k1,k2⟩:=(KM (b:=2) p (by omega) (n:=k)).1 jn;refine⟨⟨[bT v birth b],by simp[dsk,pp],by simp,by simp[cp,pp],fun r hr=> ?_⟩,fun q=> ?_, ?_,fun a is=> ?_,by simp[cp,pp]⟩
  .obtain rfl:r=bT v birth b:=by simpa using hr
   have:(bT v birth b).at_.toNat=v:=by simp[bT]
   rw[this,u6];exact⟨by simp[bT];omega,p,by omega⟩
  .by_cases e:q=v
   .subst e;exact .inr ⟨p,u6 ..⟩
   .exact .inl (vH e)
  .simp only[cp,pp,decide_true,List.filter_cons_of_pos,List.filter_nil,jF];omega
  .rw[QW,if_neg (fun e:v=a=>is (by rw[<-e];exact p))]
 have h:=w.app u;refine⟨?_,h.up, ?_,h.bk, ?_⟩
 .obtain⟨t,a,b,nb,d⟩:=h.pm;refine⟨t, ?_,b, ?_,d⟩
  .have x:(bT v birth ‹_› ::o).Perm (o++[bT v birth ‹_›]):=(List.perm_append_singleton _ _).symm;refine x.trans (a.trans ?_);rw[zC1,zIN];simp[dsk,pp]
  .rw[nb,cO,fF];simp[pp,cp,Nat.add_comm]
 .have:=h.ct;rw[cO]at this;rw[fF];simp only[fF,zGT]at this;omega
 .have:=h.ln;rw[cO]at this;rw[fF];simp only[fF,zGT]at this;omega
def WN (h:Nat)(t:Bt.Tr h):Prop:=(∃lo hi,WF h lo hi t)\/WR h t
theorem WN.gen {h:Nat}{t:Bt.Tr h}(w:WN h t): ∃lo hi,Gen h lo hi t:=by
 rcases w with⟨lo,hi,w⟩ | w
 .exact⟨lo,hi,w.gen⟩
 .exact⟨none,none,w.gen⟩
theorem WN.sz {h:Nat}{t:Bt.Tr h}(w:WN h t):wB h t<=500:=by
 rcases w with⟨lo,hi,w⟩ | w
 .exact w.sz
 .exact w.sz
theorem WN.ne {t:Bt.Tr (k+1)}(w:WN (k+1) t):t.1≠[]:=by
 rcases w with⟨lo,hi,w⟩ | w
 .exact w.2.1
 .exact w.2.1
theorem WN.kid {t:Bt.Tr (k+1)}(w:WN (k+1) t){x:Bt.Tr k}(a:x∈t.2):WN k x:=by
 obtain⟨i,hi,rfl⟩:=jO a;rcases w with⟨lo,f,w⟩ | w
 .exact .inl ⟨_,_,w.1.2.2.at (zK hi)⟩
 .exact .inl ⟨_,_,w.1.2.2.at (zK hi)⟩
end Go.Eng.Sh
end
section
namespace Go.Eng
theorem rowSt (j:h.ok){i N cc:Nat}{f x:List AV}(H:h.h.get k=some (.cells (t++f) v l V))(m:t.length=i*l)(o:0<l)(y:l<=f.length)(q:x.length=l)(s:jS x=true)(hi:i<N):
  ∃H',(∀κ (z:Int),z=(i:Int)->cN l (.slice k 0 N cc) (.int κ z)=some (.ptr k (i*l)))/\stN l (.ptr k (i*l)) (.agg x) h=some (jT,H')/\H'.h.get k=some (.cells (t++x++f.drop l) v l V)/\Stp (fun B=>B=k) h H'/\H'.next=h.next:=by
 have hb:Nat.blt i N=true:=by rw[qD];exact hi
 have p:i*l+l<=(t++f).length:=by rw[zV];omega
 refine⟨_,fun κ z e=> ?_,JH H o q s p, ?_,(zOp j).put (j.lt H) _ (.inr rfl),rfl⟩
 .subst e;simp only[cN,kO κ (show(0:Int)<=(i:Int)by omega),yD,hb,zU,kG,j7]
 .rw[zOl,if_pos rfl];have u:(t++f).take (i*l)=t:=jA m;have A:(t++f).drop (i*l+l)=f.drop l:=by rw[<-List.drop_drop,j6 m]
  simp only[kC,u,A]
end Go.Eng
namespace Go.Eng.Sh
open Go.Nd (Ptr Str)
open Go.Bk Go.Bt
theorem AdT.keep {Z a:Nat->Prop}{H H':AH}(h:AdT Z H a H'){A:Nat}(f:A<H.next)(i: ¬Z A):H'.h.get A=H.h.get A/\ ¬a A/\A<H'.next:=
 ⟨h.1.keep A f i,fun x=>by rcases h.2 A x with y | y;exact i y;omega,qJ f h.1.next⟩
theorem Wr.box (q:Wr a h k v l B G .nP J N Q A C H e R p w f)(s:Stp (fun i=>i=W) h F)(K: ¬w W)(hp: ¬f W)(L:h.h.get W=some (.cells t m u V)):Wr a F k v l B G .nP J N Q A C H e R p w f:=by
 obtain⟨j,z,root,M,x,O,nt,is,S,txg,I,T,U,P,E,y⟩:=q.gw;have Z:=q.ti.ok;have nz: ∀i,w i-> ¬i=W:=fun i H' m=>K (m▸H')
 have Y: ¬j=W:=fun m=>by have:=txg.gO;rw[m,L]at this;cases this
 have es:DkI F G a.nb a.ws j z root M:=txg.stp Z s (nz _ ((E _).2 (.inr (.inr (.inl rfl))))) Y (nz _ ((E _).2 (.inr (.inr (.inr (.inl rfl)))))) fun i o=>nz _ ((E _).2 (.inr (.inr (.inr (.inr (.inl o))))))
 have left:=q.ti.wr s (fun i o=>fun m=>hp (m▸(q.pa i).2 o)) es;exact⟨left,q.sp.stp Z s (nz _ ((E _).2 (.inr (.inl rfl)))),q.few,⟨j,z,root,M,x,O,nt,is,S,es,by rw[s.keep _ (Z.lt I) (nz _ ((E _).2 (.inl rfl)))];exact I,T.mono s fun i o=>nz _ ((E _).2 (.inr (.inr (.inr (.inr (.inr (.inl o))))))),U.mono s fun i o=>nz _ ((E _).2 (.inr (.inr (.inr (.inr (.inr (.inr o))))))),P,E,y⟩,q.pr,q.pa,q.bd,q.nb,q.s0,q.lf⟩
theorem Wr.dec (root:Wr a h k v l B G .nP J (N+1) Q A C H e R p w f):
  ∃H',Eng.ld1 (.ptr k 3) h=some (.int .i64 (N+1:Nat))/\stN 1 (.ptr k 3) (.int .i64 N) h=some (jT,H')/\Eng.ld1 (.ptr k 3) H'=some (.int .i64 N)/\Eng.ld1 (.ptr k 0) H'=some (.ptr l 0)/\Wr a H' k v l B G .nP J N Q A C H e R p w f/\AdT w h w H'/\H'.next=h.next:=by
 obtain⟨I,t,K,L,W,Y,nt,tl,ol,m,es,txg,O,hn,left,S⟩:=root.gw;have u:=root.ti.ok;obtain⟨T,e1,s,j,n1⟩:=xT u es (o:=3) (x:= .int .i64 N) rfl (by simp);have y:w k:=(left _).2 (.inl rfl);have V:v≠k:=fun is=>by
  obtain⟨c,g,U,_⟩:=root.sp;rw[is,es]at g;simp only[zC,AObj.cells.injEq]at g;rw[<-g.1]at U;simp at U
 have F:DkI T G a.nb a.ws I t K L:=m.stp u j (fun is=>jY es m.gD (by simp) is.symm) (fun is=>S (is▸y)) (fun is=>jY es m.gN (by simp) is.symm) fun M i is=>jY es (m.ow.get i) (by simp) is.symm
 refine⟨T,by rw[jP es];rfl,e1,by rw[jP s];rfl,by rw[jP s];rfl,⟨root.ti.wr j (fun M i is=>root.pr M ((root.pa M).2 i) (is▸y)) F,root.sp.stp u j V,root.few,⟨I,t,K,L,W,Y,nt,tl,ol,F,s,txg.mono j fun M i is=>jY es (zOw txg i) (by simp) is.symm,O.mono j fun M i is=>jY es (zOw O i) (by simp) is.symm,hn,left,S⟩,root.pr,root.pa,root.bd,root.nb,root.s0,by have:=root.lf;omega⟩,⟨j.mono fun M _ is=>is▸y,fun _ E=> .inl E⟩,n1⟩
def zJq (h:Nat):Prop:= ∀ {E:Ev} {H:AH} {a s u M v txg left F:Nat} {is:Nat->Nat} {root:Ptr} {es:List (AV×AV)} {q:PN} {j:Nat} {x:AV} {Z P:Nat->Prop} (k n:Nat) {p:Ptr} {y:Nd.Node} {t:Bt.Tr h} {S:List Ptr},200000000+h<=k->200000000<=n->
  Wr E H a s u M v .nP txg left F is root es q j x Z P->Qf E q [] p=some y->wE (Qf E q []) h y t S->WN h t->(∀r∈p::S,r.at_≠1->is r.at_.toNat≠0)->cp (p::S)<=left->cp (p::S)<=cnt is 0 E.nb->txg<=2147483647->
  ∃H' ws' z la' m f o C i,f96 (dy k) n [.ptr a 0, .agg (jV p)] H=some (.tuple [.agg (jV f), .int .i64 (0:Nat)],H')/\Wr { E with ws:=ws'} H' a s u M v .nP txg i la' m root es q j x z P/\AdT Z H z H'/\WOut E.nb E.ws ws' is m (p::S) (f::C)/\i+cp (p::S)=left/\Ev.K { E with ws:=ws'} f=some o/\wE (Ev.K { E with ws:=ws'}) h o t C
theorem zHD {ws':Ws}(h:Qf a e [] C=some q)(hb:C.at_≠1->blkAt C.at_.toNat ws'=blkAt C.at_.toNat a.ws):Qf { a with ws:=ws'} e [] C=some q:=by
 obtain⟨s,rfl,f⟩ | ⟨f,i⟩:=vV h
 .rw[UW]at h⊢;exact h
 .rw[Y0 f];exact Ev.K_keep i (hb fun E=>by have:=(bX i).2;omega)
theorem wkids (ih:zJq k)(h n:Nat)(hk:200000000+k<=h)(hn:200000000<=n){cc N:Nat}{x4 x6:AV}(ht:Q<=2147483647)(hN:N=M.length)(f4:N<=100000):
  ∀(y:List Ptr) (ts:List (Bt.Tr k)) (S a:List Ptr) (E:Ev) (root:AH) (Z:Nat->Prop) (left la:Nat) (is:Nat->Nat) (s:Nat) (f:List AV),Wr E root v l B G J .nP Q left la is C H e W p Z w->vB (Qf E e []) (wE (Qf E e []) k) y ts S->(∀x∈ts,WN k x)->(∀r∈S,r.at_≠1->is r.at_.toNat≠0)->cp S<=left->cp S<=cnt is 0 E.nb->y.length<s->
   bI root I M->(∀As,Blk I As->w As)->M.drop a.length=y->a.length+y.length=M.length->root.h.get R=some (.cells (a.flatMap jV++f) 42 3 false)->f.length=y.length*3-> ¬Z R-> ¬w R->
   ∃H' ws' Z' la' b2 a9 b3 S',kL s (zE2 (dy (h+1)) n) [.ptr v 0,x4,x6, .slice R 0 N cc,I, .int .i64 N, .int .i64 a.length] root=some (.exit 0 [.ptr v 0,x4,x6, .slice R 0 N cc],H')/\Wr { E with ws:=ws'} H' v l B G J .nP Q a9 la' b2 C H e W p Z' w/\AdT (fun As=>Z As\/As=R) root (fun As=>Z' As\/As=R) H'/\ ¬Z' R/\WOut E.nb E.ws ws' is b2 S S'/\a9+cp S=left/\vB (Ev.K { E with ws:=ws'}) (wE (Ev.K { E with ws:=ws'}) k) b3 ts S'/\H'.h.get R=some (.cells ((a++b3).flatMap jV) 42 3 false):=by
 intro y
 induction y with
 | nil=>
  intro ts S a E root Z left la is s f kv O hw txg b4 b5 V a4 q hd hl g8 Y a6 a0;obtain⟨s,rfl⟩: ∃m,s=m+1:=⟨s - 1,by simp at V;omega⟩
  cases ts with
  | cons _ _=>exact O.elim
  | nil=>
   have es:S=[]:=O;subst es;have hi: ¬(a.length:Int)< (N:Int):=by simp only[yO]at hl;omega
   have c9:f=[]:=zR (by simpa using Y);subst c9;refine⟨root,E.ws,Z,la,is,left,[],[],jZ (by simp(disch:=omega) only[zE2,eZ,hi]),kv,AdT.prs (zOp kv.ti.ok),a6,WOut.nil _ _ _ (by simp),by rw[zGT];omega,rfl,by simpa using g8⟩
 | cons b0 y ihp=>
  intro ts S a E root Z left la is s f kv O hw txg b4 b5 V a4 q hd hl g8 Y a6 a0;obtain⟨s,rfl⟩: ∃m,s=m+1:=⟨s - 1,by simp at V;omega⟩
  cases ts with
  | nil=>exact O.elim
  | cons t ts=>
   obtain⟨j,S1,F,hq,hr,d0,rfl⟩:=O;have b6:a.length<M.length:=by simp at hl;omega
   have d1:M[a.length]=b0:=by
    have:=List.getElem_cons_drop b6;rw[hd]at this;simp only[qU]at this;exact this.1
   obtain⟨pk,q1,q2⟩:=a4.at b6;rw[d1]at q2;have a7:=kv.ti.ok;have l8:=a7.lt g8;obtain⟨H1,b7,b1,p1,g1,m1,n1⟩:=box a7 (.cells [.int .i64 (0:Nat), .int .i64 (0:Nat), .int .u64 (0:Nat)] 42 1 false);obtain⟨H2,e2,g2,s2,n2⟩:=kD p1.ok g1 (l':=jV b0) rfl rfl;have d2:stN 3 (.ptr b7 0) (.agg (jV b0)) H1=some (jT,H2):=e2;have At:Prs root H2:=p1.fresh s2 fun As L=>by omega
   have r2:ldN 3 (.ptr b7 0) H2=some (.agg (jV b0)):=xJ g2 rfl;have dr:b0::(S1++F)=(b0::S1)++F:=rfl;rw[dr,cO]at b4 b5;obtain⟨H3,z,Z3,d3,b8,u,d4,a8,c5,e3,w3,T,U,f5,d5,d6⟩:=ih h h hk (by omega) (kv.prs At) hq hr (hw t (zJ ..)) (fun r hr=>txg r (by rw[dr];exact qX _ hr)) (by omega) (by omega) ht;have N2:=At.next;have N3:=T.1.next
   have b9:=zOs At a7 g8;obtain⟨k8,z8,f6⟩:=T.keep (At.ok.lt b9) a6;have c0:=k8.trans b9;obtain⟨H4,d7,e4,g4,s4,n4⟩:=rowSt (cc:=cc) w3.ti.ok c0 (i:=a.length) (N:=N) (x:=jV u) (d9 a) (by omega) (by simp at Y;omega) rfl rfl (by omega);have w4:=w3.box s4 z8 a0 c0;have c1:(a++[u]).length=a.length+1:=by simp
   have c2: ∀r,r∈F-> ∀j,Qf E e [] r=some j->Qf { E with ws:=z} e [] r=some j:=fun r hr j k=>zHD k fun Ad=>U.bk _ (txg r (by rw[dr];exact qY _ hr) Ad)
   have d8:vB (Qf { E with ws:=z} e []) (wE (Qf { E with ws:=z} e []) k) y ts F:=d0.mono c2 fun j t S' hS r=>r.mono fun b0 hp j hh=>c2 b0 (hS b0 hp) j hh
   have c7:bI H4 I M:=by
    refine(Rw.stp (Rw.stp (a4.prs At) T.1 fun As L=> ?_) s4 fun As L es=> ?_)
    .exact kv.pr As (q As L)
    .exact a0 (es▸q As L)
   obtain⟨H5,c3,Z5,e0,e6,c6,e7,S5,e5,w5,a5,z5,o5,f7,e8,g5⟩:=ihp ts F (a++[u]) { E with ws:=z} H4 Z3 c5 d3 b8 s (f.drop 3) w4 d8 (fun x hx=>hw x (zE _ hx)) (fun r hr Ad=>U.nz (txg r (by rw[dr];exact qY _ hr) Ad)) (by omega) (by have:=U.ct;show cp F<=cnt b8 0 E.nb;omega) (by simp at V;omega) c7 q (by rw[c1,<-List.drop_drop,hd];rfl) (by simp at hl⊢;omega) (by rw[g4];simp) (by simp at Y⊢;omega) z8 a0;have o:=U.app o5;have e9:=U.used (fun r hr Ad=>txg r (by rw[dr];exact qX _ hr) Ad);have c4: ∀r,r∈u::a8-> ∀j,Ev.K { E with ws:=z} r=some j->Ev.K { E with ws:=c3} r=some j:=fun r hr j k=>Ev.K_keep (E:= { E with ws:=z}) k (o5.bk _ (e9 r hr).2)
   refine⟨H5,c3,Z5,e0,e6,c6,u::e7,u::a8++S5, ?_,w5, ?_,z5,o,by rw[dr,cO];omega,⟨d4,a8,S5,c4 u (zJ ..) _ d5,d6.mono fun r hr j k=>c4 r (zE _ hr) j k,e8,rfl⟩,by rw[g5];simp⟩
   .have hi:(a.length:Int)< (N:Int):=by omega
    have f1: ¬(((0:Nat):Int)≠((0:Nat):Int)):=by omega
    have hi1:(a.length:Int)+((1:Nat):Int)=(((a++[u]).length:Nat):Int):=by rw[c1];omega
    have wi:IntKind.wrap .i64 (((a++[u]).length:Nat):Int)=(((a++[u]).length:Nat):Int):=wrap_i64 (by omega) (by omega);have c8:=d7 .i64 _ rfl;have f2:=q1 .i64 _ rfl;have f3:(dy (h+1)).fn 96 [.ptr v 0, .agg (jV b0)] H2=some (.tuple [.agg (jV u), .int .i64 (0:Nat)],H3):=e3;refine(kX ?_).trans e5;simp(maxSteps:=999999)(disch:=omega) only[zE2,eZ,hi,f2,q2,b1,d2,r2,f3,jR,nth,c8,e4,f1,hi1,wi]
   .have a1:AdT (fun As=>Z As\/As=R) root (fun As=>Z3 As\/As=R) H3:=by
     refine⟨(At.stp).trans (T.1.mono fun As _ k=> .inl k),fun As L=> ?_⟩;rcases L with L | L
     .rcases T.2 As L with x | x
      .exact .inl (.inl x)
      .exact .inr (by omega)
     .exact .inl (.inr L)
    have a2:AdT (fun As=>Z3 As\/As=R) H3 (fun As=>Z3 As\/As=R) H4:=⟨s4.mono fun As _ k=> .inr k,fun As k=> .inl k⟩;exact(a1.trans a2).trans a5
end Go.Eng.Sh
end



