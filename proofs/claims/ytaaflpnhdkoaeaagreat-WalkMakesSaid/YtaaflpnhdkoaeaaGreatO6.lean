/- A checked evaluator for the program, and what it tells, part 6: no condition. -/
import Derived.Test.YtaaflpnhdkoaeaaGreatO5
set_option linter.all false
set_option linter.unusedVariables false
set_option linter.unusedSimpArgs false
set_option maxHeartbeats 8000000
set_option maxRecDepth 20000
variable {H s:List (Go.Eng.AV×Go.Eng.AV)}{h L u:List Go.Nd.Ptr}{n A t B D G M N P R c m:Nat}{k C g:Go.Eng.AH}{i J:Nat->Prop}{v j:Nat->Nat}{w:Go.Nd.Node}{l F V f:Go.Eng.AV}{p Q:Go.Eng.Sh.PN}{q:Go.Nd.Ptr}{e:List Go.Eng.AV}{I:Go.Nd.Kvs}{U:Go.Eng.Sh.Ev}{W:Bool}{Y:Go.Bk.Ws}{a:List Go.Nd.Node}{r:Go.Nd.Ptr->Option Go.Nd.Node}{z:Go.IntKind}
section
namespace Go.Eng.Sh
open Go.Nd (Ptr sumL cQ)
open Go.Bt
variable {E:Ev}{X:Nat->Prop}
theorem Ch.stb (At:Ch X k C n A t H p l h D G)(a:C.h.get B=some (.cells (.bool W::e) M 1 false))(s:Stp (fun H'=>H'=B) C g)(x:k.next<=B)(y:B≠A):Ch X k g n A t H p l h D G:=
 At.other s (fun M=>y M.symm) (fun M=>by subst M;rw[At.gF]at a;cases a) (fun H' j M=>by subst M;rw[At.gg.get j]at a;simp at a) (fun kv H0 H' j M=>by
  subst M;obtain⟨z,u⟩:=At.pf.mem kv H0;exact u.nblk a (.inl ⟨_,_,_,_,rfl,fun _ _ M=>by cases M⟩) j) (fun H' j=>by subst j;exact x)
theorem xS.stb (h:xS X k l F w)(a:k.h.get n=some (.cells (.bool W::e) A 1 false))(s:Stp (fun B=>B=n) k C):xS X C l F w:=
 ⟨h.1.stp s fun B f A=>by subst A;exact h.1.nblk a (.inl ⟨_,_,_,_,rfl,fun _ _ A=>by cases A⟩) f,h.2⟩
theorem QQ (h:kB k (.agg e) w): ∃r,e= .bool w.leaf::r/\e.length=4/\jP e=true:=by
 obtain⟨ks,vs,ps,l,a,f,j⟩:=h;simp only[AV.agg.injEq]at l;subst l;exact⟨_,rfl,rfl,YE _ _ _ _ a.row.isCell f.row.isCell j.row.isCell⟩
theorem zFL (m9 At:Nat)(hn:200000000<=At){i h:Nat}{lk:List AV}{kd:Nd.Node}{M:Bt.Tr (h+1)}{x tk:Bt.Tr h}{Sb Sx:List Ptr}{lo hi:Bd}
  (ti:TI E k n B l F q H p D V) (hold: ∀kv∈H,∀d,xT kv.2 d->d<k.next) (l8: ∀kv∈H,∀d,xT kv.2 d-> ¬X d) (hq: ∀root w,jX root p=some w->root<=D) (ch:Ch X k C n A t s Q f L D G)
  (hv:xS X C f (.agg e) w) (d5:xS X C f (.agg lk) kd)
  (n1:w.leaf=false) (n2:w.keys=M.1) (n3:w.vals=[]) (n4:w.kids.length=M.2.length) (wi:Inn (WF h) lo hi M) (c6:M.1≠[]) (hz:wS M.1 M.2.length<=500) (l9:M.2[i]? =some tk)
  (ra:xU (Qf E p []) (kT (Qf E p []) h) (w.kids.take i) (M.2.take i) u) (rb:xU (Qf E p []) (kT (Qf E p []) h) (w.kids.drop (i+1)) (M.2.drop (i+1)) Sb)
  (rx:kT (Qf E p Q) h kd x Sx) (wx:WX h (VO lo M.1 i) (YG M.1 hi i) x) (f2:0<h->kd.keys≠[]) (hb:G<=700000000) (m0:L.length+1<=G+1000):
  ∃g H' a2 K g' i6 y J o Y es R,f129 (dy (m9+1)) At [.ptr A 0, .agg e, .int .i64 (i:Nat), .agg lk] C=some (.tuple [g, .int .i64 (0:Nat)],H')/\
   Ch X k H' n A t a2 K g' i6 D y/\Adv A t C f H' g'/\xS X H' g' g J/\kT (Qf E p K) (h+1) J o Y/\Inn (WF h) lo hi o/\
   con (h+1) o=(M.2.take i).flatMap (con h)++con h x++(M.2.drop (i+1)).flatMap (con h)/\wS o.1 o.2.length<=wS M.1 M.2.length+285/\M.1.length<=o.1.length+1/\G<=y/\y<=G+6/\i6=L++es/\
   Y.Perm (pps G (y - G)++(R++Sx))/\(u++Sb).Perm (es++R)/\(∀dr w,Qf E p Q dr=some w->Qf E p K dr=some w)/\es.length<=1:=by
 obtain⟨m4,rfl⟩:=qR.1 l9;have q9:=wi.2.2.len;obtain⟨rn,r3,r4,r6⟩:=QQ hv.1;obtain⟨rk,m6,c1,r7⟩:=QQ d5.1;obtain⟨H1,A5,b1,p1,g1,m1,r8⟩:=box ch.prs.ok (.cells e 119 1 false);obtain⟨H2,A7,b2,p2,g2,m2,r9⟩:=box p1.ok (.cells lk 119 1 false);obtain⟨H3,A8,b3,p3,g3,m3,s0⟩:=box p2.ok (.cells [.bool false, .nS, .nS, .nS] 119 1 false);have P3:Prs C H3:=(p1.trans p2).trans p3;have m7:=zRB p3 p2.ok (zRB p2 p1.ok g1);have d6:=zRB p3 p2.ok g2;have f3:small kd:=vJ (by rw[rx.size];have:=wx.sz;omega);obtain⟨z,H4,e4,rfl,p4⟩:=WM (dy (m9+1)) At P3.ok (d5.1.prs P3).node f3 hn;have O:=P3.trans p4;have d7:=zRB p4 P3.ok m7;have i8:=zRB p4 P3.ok d6;have i9:=zRB p4 P3.ok g3;have b0:=ch.step O;have N0:=ch.prs.next
 have cc:=ch.ltC;have f4: ∀dr w,Qf E p [] dr=some w->Qf E p Q dr=some w:=fun dr w hp=>by
  have:=zAX (new:=Q) hq (fun root J hs=>(ch.fs root J hs).1) hp;simpa using this
 have c0: ∀ {ps:List Ptr} {ts:List (Bt.Tr h)} {S:List Ptr},xU (Qf E p []) (kT (Qf E p []) h) ps ts S->xU (Qf E p Q) (kT (Qf E p Q) h) ps ts S:=fun r=>r.mono (fun dr _ w hp=>f4 dr w hp) (fun w M S1 _ hr=>hr.mono fun dr _ w hp=>f4 dr w hp)
 have m8:(i:Int)+((1:Nat):Int)=((i+1:Nat):Int):=by omega
 have s1:i<=1000:=by simp only[wS]at hz;omega
 have q6:=rx.size;by_cases e0:wK h x<160
 case neg=>
  have d2: ¬((Nd.size kd:Nat):Int)< ((160:Nat):Int):=by omega
  have fx:Full h x:=by
   cases h with
   | zero=>
    intro l7;have l7:x=([]:Nd.Kvs):=l7;rw[l7]at e0;exact e0 (by decide)
   | succ h=>exact Nat.le_of_not_lt e0
  obtain⟨g,H5,a2,K,y,J,o,Y,e5,b4,st,hu,d8,r5,w5,c5,z5,k5,l1,l2,pm,more⟩:=zBB (dy (m9+1)) At hn (i:=i) (m:=0) (h:=h) b0 d7 i8 i9 (by omega) (by have:=p1.next;omega) (by have:=p1.next;have:=p2.next;omega) (by have:=p2.next;omega) (by omega) (by have:=p1.next;have:=p2.next;omega)
   (hv.prs O) (d5.prs O) hq n1 n2 n3 n4 wi c6 hz (by simpa using m4) (c0 ra) (by simpa using c0 rb) rx (by simpa using wx) fx f2 (by omega)
  refine⟨g,H5,a2,K,f,L,y,J,o,Y,[],u++Sb, ?_,b4, ?_,hu,r5,w5,by simpa using c5,z5,by omega,l1,l2,by simp, ?_,by simp,more,by simp⟩
  .simp(maxSteps:=999999)(disch:=omega) only[f129,eZ,b1,b2,b3,m8,gP d6 c1,e4,d2];simp only[Nat.add_zero]at e5;rw[e5];rfl
  .refine⟨⟨st.ok,by have:=st.next;have:=O.next;omega,fun d N hS=> ?_⟩,fun d N=> .inl N⟩
   rw[st.keep d (by have:=O.next;omega) (fun hx=>by
    rcases hx with hx | hx
    .exact hS hx
    .have:=p1.next;have:=p2.next;omega)]
   exact O.keep d N (fun x=>x)
  .exact pm
 case pos=>
 have d2:((Nd.size kd:Nat):Int)< ((160:Nat):Int):=by omega
 have side: ∃b H0 tb a4 pb,w.kids[b]? =some pb/\Qf E p [] pb=some H0/\kT (Qf E p []) h H0 tb a4/\M.2[b]? =some tb/\
   ((b+1=i/\ ∃a5,xU (Qf E p []) (kT (Qf E p []) h) (w.kids.take b) (M.2.take b) a5/\u=a5++(pb::a4))\/(i=0/\b=1/\ ∃a6,xU (Qf E p []) (kT (Qf E p []) h) (w.kids.drop 2) (M.2.drop 2) a6/\Sb=pb::(a4++a6))):=by
  have s2:0<M.1.length:=by
   rcases Nat.eq_zero_or_pos M.1.length with l7 | l7
   .exact absurd (zW l7) c6
   .exact l7
  cases i with
  | zero=>
   have h1:1<M.2.length:=by omega
   rw[show(0+1:Nat)=1 from rfl,qP h1,qP (show 1<w.kids.length by omega)]at rb;obtain⟨H0,S1,S2,q1,q2,q3,l7⟩:=rb;exact⟨1,H0,M.2[1],S1,_,zQ (by omega),q1,q2,zQ h1, .inr ⟨rfl,rfl,S2,q3,l7⟩⟩
  | succ j=>
   have h1:j<M.2.length:=by omega
   rw[qJ h1,qJ (show j<w.kids.length by omega)]at ra;obtain⟨T1,T2,r1,r2,l7⟩:=ra.split j;have e1:(w.kids.take j++[w.kids[j]'(by omega)]).take j=w.kids.take j:=jA (by rw[qB];omega);have e2:(w.kids.take j++[w.kids[j]'(by omega)]).drop j=[w.kids[j]'(by omega)]:=yV (by rw[qB];omega);have e3:(M.2.take j++[M.2[j]]).take j=M.2.take j:=jA (by rw[qB];omega);have e4:(M.2.take j++[M.2[j]]).drop j=[M.2[j]]:=yV (by rw[qB];omega);rw[e1,e3]at r1;rw[e2,e4]at r2;obtain⟨H0,S1,S2,q1,q2,q3,e5⟩:=r2;have q3:S2=[]:=q3;subst q3;exact⟨j,H0,M.2[j],S1,_,zQ (by omega),q1,q2,zQ h1, .inl ⟨rfl,T1,r1,by rw[l7,e5,yG]⟩⟩
 obtain⟨b,H0,tb,a4,pb,kb,hs,f5,j0,l0⟩:=side;obtain⟨f6,rfl⟩:=qR.1 j0;have f7:b<w.kids.length:=by omega
 have n0:w.kids[b]=pb:=by rw[zQ f7]at kb;exact qT kb
 have Z:WF h (VO lo M.1 b) (YG M.1 hi b) M.2[b]:=KB.at wi.2.2 j0;have n6:=ti.prs b0.prs;obtain⟨ks,s3,ps,f8,k1,k2,k3⟩:=id (hv.prs O).1;simp only[AV.agg.injEq]at f8;obtain⟨H5,j4,b5,p5,g5,m5,n5⟩:=box b0.prs.ok (.cells [.bool false, .nS, .nS, .nS] 119 1 false);obtain⟨vb,H6,e6,p6,f9,d3⟩:=zDb m9 At hn (n6.prs p5) hs;obtain⟨lb,rfl,g0,n8⟩:=f9.cells;obtain⟨H7,e7,g7,s7,n7⟩:=jV p6.ok (zRB p6 p5.ok g5) (l':=lb) g0 n8;have j5:stN 4 (.ptr j4 0) (.agg lb) H6=some (jQ,H7):=e7;have N4:=O.next;have N5:=p5.next;have N6:=p6.next
 have a7:Prs H4 H7:=(p5.trans p6).fresh s7 (fun d N=>by omega);have b6:=b0.step a7;have i2:kB H7 (.agg lb) H0:=f9.stp s7 (fun d N l7=>by
  subst l7;exact f9.nblk (zRB p6 p5.ok g5) (.inl ⟨_,_,_,_,rfl,fun _ _ l7=>by cases l7⟩) N)
 have n9:xS X H7 f (.agg lb) H0:=by
  rcases d3 with⟨kk,d3⟩ | d8
  .exact i2.hand b6 (fun d N=>hold _ d3 d N) (l8 _ d3)
  .refine⟨i2,fun d N=>⟨fun hg=> ?_,fun hx=> ?_⟩⟩
   .have h1:=d8 d N;have h2:=zRH (b0.step p5).gg.row hg;omega
   .have h1:=d8 d N;have h2:=ch.xo d hx;have h3:=(b0.step p5).prs.next
    omega
 obtain⟨g',H8,e8,b7,a8⟩:=zIr (dy (m9+1)) At b6 pb m0 (by omega);have j6:=b6.next (hv.prs (O.trans a7)) a8
 have j7:=b6.next (d5.prs (O.trans a7)) a8
 have j8:=b6.next n9 a8
 have np: ∀ {Ac:Nat} {c:List AV} {l7:Nat},H7.h.get Ac=some (.cells c l7 1 false)->Ac≠A-> ¬chg A t f Ac:=fun {Ac c l7} hg c6 hc=>by
  rcases hc with l7 | l7 | l7
  .exact c6 l7
  .rw[l7,b6.gF]at hg;cases hg
  .rw[b6.gg.get l7]at hg;simp at hg
 have M1:=p1.next;have M2:=p2.next;have M3:=p3.next;have M4:=p4.next;have M7:=a7.next
 have d9:=zRB a7 O.ok d7;have j9:=zRB a7 O.ok i8;have k0:=zRB a7 O.ok i9;have g4:H8.h.get A5=some (.cells e 119 1 false):=by rw[a8.1.keep _ (by omega) (np d9 (by omega))];exact d9
 have g6:H8.h.get A7=some (.cells lk 119 1 false):=by rw[a8.1.keep _ (by omega) (np j9 (by omega))];exact j9
 have o0:H8.h.get A8=some (.cells [.bool false, .nS, .nS, .nS] 119 1 false):=by rw[a8.1.keep _ (by omega) (np k0 (by omega))];exact k0
 have i3:H8.h.get j4=some (.cells lb 119 1 false):=by rw[a8.1.keep _ (by omega) (np g7 (by omega))];exact g7
 have k34:gZ H4 ps w.kids:=k3.row;obtain⟨q4,i4,g8⟩:=k34.at f7;obtain⟨q7,i7,g9⟩:=(k34.prs a7).at f7;rw[n0]at g8 g9;obtain rfl:q7=q4:=by
  have e1:=i4 .i64 b rfl;rw[i7 .i64 b rfl]at e1;exact qT e1
 have i5:small H0:=vJ (by rw[f5.size];have:=Z.sz;omega);have b8:kT (Qf E p Q) h H0 M.2[b] a4:=f5.mono fun dr _ w hp=>f4 dr w hp
 have k4:0<h->H0.keys≠[]:=fun hh=>by
  cases h with
  | zero=>omega
  | succ h=>
   have:=X9 Z;rw[f5.2.1];intro l7;rw[l7]at this;simp at this
 have k6: ¬(((0:Nat):Int)≠((0:Nat):Int)):=by omega
 have b9: ∀Hx:AH,Hx.h.get A5=some (.cells e 119 1 false)->ld1 (.ptr A5 3) Hx=some ps/\ld1 (.ptr A5 1) Hx=some ks:=fun Hx hg=>by
  rw[jM hg,jM hg,f8];exact⟨rfl,rfl⟩
 have k7:Strs H8 ks w.keys:=by
  obtain⟨s4,vs',s5,d4,j1,j2,j3⟩:=id j6.1;simp only[AV.agg.injEq]at d4;rw[f8]at d4;simp only[y8,and_true]at d4;obtain⟨_,rfl,_,_⟩:=d4;exact j1.row
 have k8: ∀(j m:Nat) (sep:Str) (g:AV) (c7:Nd.Node) (x':Bt.Tr h) (h0 a5 a6:List Ptr) (H9:AH),Prs H8 H9->YF H8 H9 g c7->kT (Qf E p Q) h c7 x' h0->WX h (VO lo M.1 j) (YG M.1 hi (j+m)) x'->Full h x'->(0<h->c7.keys≠[])->j+m<M.2.length->
   xU (Qf E p Q) (kT (Qf E p Q) h) (w.kids.take j) (M.2.take j) a5->xU (Qf E p Q) (kT (Qf E p Q) h) (w.kids.drop (j+m+1)) (M.2.drop (j+m+1)) a6->
   ∃a9,stN 4 (.ptr A7 0) g H9=some (jQ,a9)/\ ∃g H' a2 K y J o Y,zCi (dy (m9+1)) At [.ptr A 0, .ptr A5 0, .ptr A7 0, .ptr A8 0, .int .i64 (j:Nat), .int .i64 (j+m+1:Nat)] a9=some (.ret (.tuple [g, .int .i64 (0:Nat)]),H')/\
    Ch X k H' n A t a2 K g' (L++[pb]) D y/\Adv A t C f H' g'/\xS X H' g' g J/\kT (Qf E p K) (h+1) J o Y/\Inn (WF h) lo hi o/\
    con (h+1) o=(M.2.take j).flatMap (con h)++con h x'++(M.2.drop (j+m+1)).flatMap (con h)/\wS o.1 o.2.length<=wS M.1 M.2.length+285/\M.1.length<=o.1.length+m/\G<=y/\y<=G+6/\
    Y.Perm (pps G (y - G)++(a5++a6++h0))/\ ∀dr w,Qf E p Q dr=some w->Qf E p K dr=some w:=by
  intro j m sep g c7 x' h0 a5 a6 H9 p9 w9 o1 o2 o3 l3 c8 h4 h5;have k9:=w9.free;obtain⟨lu,rfl,s6,o4⟩:=k9.1.cells;have o5:=b7.step p9;have o6:xS X H9 g' (.agg lu) c7:=vY.hand b7 (zP _) k9;have c9:=zRB p9 b7.prs.ok g6;obtain⟨a9,c2,o7,c3,s8⟩:=jV p9.ok c9 (l':=lu) (by omega) o4;have l4:stN 4 (.ptr A7 0) (.agg lu) H9=some (jQ,a9):=by rw[c1]at c2;exact c2
  rw[m6]at c9;have l5:=o5.stb c9 c3 (by omega) (by omega);have N8:=a8.1.next;have N9:=p9.next
  have o8:a9.h.get A5=some (.cells e 119 1 false):=by rw[c3.keep _ (by omega) (by omega)];exact zRB p9 b7.prs.ok g4
  have o9:a9.h.get A8=some (.cells [.bool false, .nS, .nS, .nS] 119 1 false):=by rw[c3.keep _ (by omega) (by omega)];exact zRB p9 b7.prs.ok o0
  obtain⟨u',H',a2,K,y,J,o,Y,e5,b4,st,hu,d8,r5,w5,c5,z5,k5,l1,l2,pm,more⟩:=zBB (dy (m9+1)) At hn (i:=j) (m:=m) (h:=h) l5 o8 o7 o9 (by omega) (by omega) (by omega) (by omega) (by omega) (by omega)
   ((j6.prs p9).stb c9 c3) (o6.stb c9 c3) hq n1 n2 n3 n4 wi c6 hz c8 h4 h5 o1 o2 o3 l3 (by omega)
  refine⟨a9,l4,u',H',a2,K,y,J,o,Y,e5,b4, ?_,hu,r5,w5,c5,z5,k5,l1,l2,pm,more⟩;refine⟨⟨st.ok,by have:=st.next;omega,fun d N hS=> ?_⟩,fun d N=> ?_⟩
  .have a1:H8.h.get d=C.h.get d:=by
    rw[a8.1.keep d (by omega) hS,a7.keep d (by omega) (fun x=>x)];exact O.keep d N (fun x=>x)
   rw[st.keep d (by omega) (fun hx=>by
    rcases hx with hx | hx
    .rcases hx with l7 | l7 | l7
     .exact hS (.inl l7)
     .exact hS (.inr (.inl l7))
     .rcases a8.2 d l7 with l7 | l7
      .exact hS (.inr (.inr l7))
      .omega
    .omega),c3.keep d (by omega) (by omega),p9.keep d (by omega) (fun x=>x)]
   exact a1
  .rcases a8.2 d N with l7 | l7
   .exact .inl l7
   .exact .inr (by omega)
 rcases l0 with⟨p0,a5,h4,rfl⟩ | ⟨rfl,rfl,a6,h5,rfl⟩
 ·
  subst p0;have T:b<M.1.length:=by omega
  have a3:=wi.1 _ (yK T);have s9:M.1.getD b []=M.1[b]:=by rw[qK,zQ T];rfl
  have h6:YG M.1 hi b=some M.1[b]:=by simp only[YG,zQ T]
  have h7:VO lo M.1 (b+1)=some M.1[b]:=by simp only[VO,zQ T]
  rw[h6]at Z;rw[h7]at wx;have c8:=zEA b8 rx Z.gen wx.gen a3.1 k4 f2 (kT.kidOk b8) (kT.kidOk rx);obtain⟨g,H9,e9,p9,w9⟩:=zIc (dy (m9+1)) At hn b7.prs.ok (sep:=M.1[b]) j8.1.node j7.1.node i5 f3;rw[c8]at e9 w9;simp only[if_true]at e9 w9;have d0:=UQ a3.1;have js:=XH h M.2[b] M.1[b] x d0;have wj:WX h (VO lo M.1 b) (YG M.1 hi (b+1)) (QV h M.2[b] M.1[b] x):=Gen.wx (zEB Z.gen wx.gen ⟨a3.1,by
   have q8:=KB.at wi.2.2 (zQ f6)
   cases b with
   | zero=>exact a3.2.1
   | succ b'=>
    simp only[VO,zQ (show b'<M.1.length by omega)];have:=(Nd.rising_ix ltS M.1).1 wi.2.1 b' T;exact this,by
   by_cases l7:b+1<M.1.length
   .simp only[YG,zQ l7];exact(Nd.rising_ix ltS M.1).1 wi.2.1 b l7
   .simp only[YG,List.getElem?_eq_none (show M.1.length<=b+1 by omega)];exact a3.2.2⟩) (by have:=Z.sz;omega)
  obtain⟨a9,c2,u',H',a2,K,y,J,o,Y,e5,b4,h8,hu,r5,w5,c5,z5,k5,l1,l2,pm,more⟩:=k8 b 1 M.1[b] g _ _ (a4++Sx) a5 Sb H9 p9 w9 (kT.join b8 rx M.1[b]) wj (zC6 d0 (.inl Z.full)) (fun hh l7=>by
   cases h with
   | zero=>omega
   | succ h=>
    have:(cQ H0 M.1[b] kd).keys=H0.keys++([M.1[b]]++kd.keys):=by simp only[cQ,b8.1,zL,qD]
    rw[this]at l7;simp at l7) (by omega) (c0 h4) (c0 rb)
  refine⟨u',H',a2,K,g',L++[pb],y,J,o,Y,[pb],a5++(a4++Sb), ?_,b4,h8,hu,r5,w5, ?_,z5,k5,l1,l2,rfl, ?_, ?_,more,by simp⟩
  .have p7:((b+1:Nat):Int) - ((1:Nat):Int)=((b:Nat):Int):=by omega
   have p8: ¬((b+1:Nat):Int)=((0:Nat):Int):=by omega
   have h9:mn2 (.int .i64 (b+1:Nat)) (.int .i64 ((b:Nat):Int))=some (.int .i64 ((b:Nat):Int)):=by
    have:ilt ((b:Nat):Int) ((b+1:Nat):Int)=true:=by rw[uS];simp;omega
    simp only[mn2,this,zO]
   have i0:mx2 (.int .i64 (b+1:Nat)) (.int .i64 ((b:Nat):Int))=some (.int .i64 (b+1:Nat)):=by
    have:ilt ((b+1:Nat):Int) ((b:Nat):Int)=false:=by rw[uS];simp;omega
    simp only[mx2,this,qH]
   have f1:((b:Nat):Int)< ((b+1:Nat):Int):=by omega
   have l6:((b+1:Nat):Int)+((1:Nat):Int)=((b+1+1:Nat):Int):=by omega
   obtain⟨qk,ik,d1⟩:=k7.at (i:=b) (by rw[n2];exact T);have i1:w.keys[b]'(by rw[n2];exact T)=M.1[b]:=by simp[n2]
   rw[i1]at d1;simp(config:= { maxSteps:=2000000}) (disch:=omega) only[f129,eZ,b1,b2,b3,l6,gP d6 c1,e4,d2,p7,p8,zES,jM b0.gC,(b9 H4 d7).1,i4,g8,b5,e6,jN,nth,j5,k6,(b9 H7 d9).1,i7,g9,e8,h9,i0,f1,gP i3 g0,(b9 H8 g4).2,ik,d1,gP g6 c1,e9,c2,zCj,e5]
  .rw[c5,zF9,qJ f6,yY,qI,List.flatMap_nil,yG];simp only[qC]
  .rw[List.perm_iff_count]at pm⊢;intro a;have:=pm a;simp only[List.count_append,List.count_cons]at this⊢;omega
  .rw[List.perm_iff_count];intro a;simp only[List.count_append,List.count_cons,List.count_nil];omega
 ·
  have T:0<M.1.length:=by omega
  have a3:=wi.1 _ (yK T);have h6:YG M.1 hi 0=some M.1[0]:=by simp only[YG,zQ T]
  have h7:VO lo M.1 1=some M.1[0]:=by simp only[VO,zQ T]
  rw[h7]at Z;rw[h6]at wx;have c8:=zEA rx b8 wx.gen Z.gen a3.1 f2 k4 (kT.kidOk rx) (kT.kidOk b8);obtain⟨g,H9,e9,p9,w9⟩:=zIc (dy (m9+1)) At hn b7.prs.ok (sep:=M.1[0]) j7.1.node j8.1.node f3 i5;rw[c8]at e9 w9;simp only[if_true]at e9 w9;have d0:=UQ a3.1;have js:=XH h x M.1[0] M.2[1] d0;have wj:WX h (VO lo M.1 0) (YG M.1 hi (0+1)) (QV h x M.1[0] M.2[1]):=Gen.wx (zEB wx.gen Z.gen ⟨a3.1,a3.2.1,by
   by_cases l7:1<M.1.length
   .simp only[YG,zQ (show 0+1<M.1.length by omega)];exact(Nd.rising_ix ltS M.1).1 wi.2.1 0 (by omega)
   .simp only[YG,List.getElem?_eq_none (show M.1.length<=0+1 by omega)];exact a3.2.2⟩) (by have:=Z.sz;omega)
  obtain⟨a9,c2,u',H',a2,K,y,J,o,Y,e5,b4,h8,hu,r5,w5,c5,z5,k5,l1,l2,pm,more⟩:=k8 0 1 M.1[0] g _ _ (Sx++a4) u a6 H9 p9 w9 (kT.join rx b8 M.1[0]) wj (zC6 d0 (.inr Z.full)) (fun hh l7=>by
   cases h with
   | zero=>omega
   | succ h=>
    have:(cQ kd M.1[0] H0).keys=kd.keys++([M.1[0]]++H0.keys):=by simp only[cQ,rx.1,zL,qD]
    rw[this]at l7;simp at l7) (by omega) (c0 ra) (c0 h5)
  refine⟨u',H',a2,K,g',L++[pb],y,J,o,Y,[pb],u++(a4++a6), ?_,b4,h8,hu,r5,w5, ?_,z5,k5,l1,l2,rfl, ?_, ?_,more,by simp⟩
  .have h9:mn2 (.int .i64 (0:Nat)) (.int .i64 (1:Nat))=some (.int .i64 (0:Nat)):=rfl;have i0:mx2 (.int .i64 (0:Nat)) (.int .i64 (1:Nat))=some (.int .i64 (1:Nat)):=rfl;have f1: ¬((1:Nat):Int)< ((0:Nat):Int):=by omega
   have q5:((1:Nat):Int)+((1:Nat):Int)=((0+1+1:Nat):Int):=by omega
   obtain⟨qk,ik,d1⟩:=k7.at (i:=0) (by rw[n2];exact T);have i1:w.keys[0]'(by rw[n2];exact T)=M.1[0]:=by simp[n2]
   rw[i1]at d1;simp(config:= { maxSteps:=2000000}) (disch:=omega) only[f129,eZ,b1,b2,b3,gP d6 c1,e4,d2,zES,jM b0.gC,(b9 H4 d7).1,i4,g8,b5,e6,jN,nth,j5,k6,(b9 H7 d9).1,i7,g9,e8,h9,i0,f1,q5,gP i3 g0,(b9 H8 g4).2,ik,d1,gP g6 c1,e9,c2,zCj,e5]
  .have e1:M.2.drop (0+1)=M.2[1]::M.2.drop 2:=qP f6;rw[c5,zF9,e1];simp only[List.take_zero,List.flatMap_nil,qW,qI,qC,show 0+1+1=2 from rfl]
  .rw[List.perm_iff_count]at pm⊢;intro a;have:=pm a;simp only[List.count_append,List.count_cons]at this⊢;omega
  .rw[List.perm_iff_count];intro a;simp only[List.count_append,List.count_cons,List.count_nil];omega
end Go.Eng.Sh
end
section
namespace Go.Bt
open Go.Nd (Str Kvs lookP putP delP leafOf mayK)
open Go.Eng (ltS)
inductive Ed
 | put (k v:Str)
 | del (k:Str)
def Ed.key:Ed->Str
 | .put k _=>k
 | .del k=>k
def Ed.run:Ed->Kvs->Option Kvs
 | .put k v,l=>some (putP k v l)
 | .del k,l=>if(lookP k l).isSome then some (delP k l)else none
def Ed.ok:Ed->Prop
 | .put k v=>mayK k=true/\v.length<=200
 | .del k=>mayK k=true
theorem Ed.run_mid (ed:Ed){A C B:Kvs}(a: ∀p∈A,ltS p.1 ed.key=true)(f: ∀p∈B,ltS ed.key p.1=true):ed.run (A++C++B)=(ed.run C).map fun c=>A++c++B:=by
 cases ed with
 | put k v=>simp only[Ed.run,qA,zNV (k:=k) a f]
 | del k=>
  simp only[Ed.run,zKX (k:=k) a f,zJd (k:=k) a f];split<;>rfl
theorem Ed.leaf {ed:Ed}{lo hi:Bd}{l':Kvs}(a:Lf lo hi I)(hl:zI4 lo ed.key)(h:hiB hi ed.key)(f:ed.ok)(hr:ed.run I=some l'):Lf lo hi l'/\wQ l'<=wQ I+242:=by
 cases ed with
 | put k v=>
  simp only[Ed.run,zB]at hr;subst hr;exact zKY a hl h f.1 f.2
 | del k=>
  simp only[Ed.run]at hr;split at hr
  .simp only[zB]at hr;subst hr;have:=zKZ k a;exact⟨this.1,by omega⟩
  .cases hr
end Go.Bt
namespace Go.Eng.Sh
open Go.Nd (Ptr sumL leafOf Kvs)
open Go.Bt
variable {X:Nat->Prop}
def edF (ed:Ed)(K V:Nat):AV:=match ed with
 | .put _ _=> .func 88 [] [.ptr K 0, .ptr V 0]
 | .del _=> .func 83 [] [.ptr K 0]
def edB (H:AH)(ed:Ed)(K V:Nat):Prop:=match ed with
 | .put k v=>Box H K (S k)/\Box H V (S v)
 | .del k=>Box H K (S k)
theorem edB.prs {ed:Ed}(h:edB k ed n A)(a:k.ok)(s:Prs k C):edB C ed n A:=by
 cases ed with
 | put H v=>exact⟨h.1.mono a s (fun x=>x),h.2.mono a s (fun x=>x)⟩
 | del H=>exact Box.mono h a s (fun x=>x)
def edL (ed:Ed)(l:Kvs):Nd.Node×Nat:=match ed.run l with
 | some l'=>(leafOf l',0)
 | none=>(nd0,5)
theorem zLi (m:Nat)(hm:200000000<=m)(N:k.ok){ed:Ed}{lo hi:Bd}(hv:kB k l (leafOf I))(q:Lf lo hi I)(hz:wQ I<=10000)(ho:ed.ok)(hb:edB k ed n A):
  ∃u H',(match ed with | .put _ _=>f88 (dy m) m [l, .ptr n 0, .ptr A 0] k | .del _=>f83 (dy m) m [l, .ptr n 0] k)=some (.tuple [u, .int .i64 ((edL ed I).2:Nat)],H')/\Prs k H'/\vY k.next H' u (edL ed I).1:=by
 have a1:Nd.shaped ltS (leafOf I)=true:=Nd.leaf_shaped q.1 fun p hp=>(q.2 p hp).2.2
 obtain⟨lv,rfl,a0,a7⟩:=hv.cells;obtain⟨H1,A3,b1,t,g1,m1,n1⟩:=box N (.cells lv 119 1 false);obtain⟨H2,A4,b2,O,g2,m2,n2⟩:=box t.ok (.cells [.bool false, .nS, .nS, .nS] 119 1 false);have f:=t.trans O;have a2:small (leafOf I):=vJ hz;have N1:=t.next;have N2:=O.next
 have a3: ∀ {u:AV} {nd:Nd.Node} {y:AH},Prs H2 y->vY H2.next y u nd-> ∃a,stN 4 (.ptr A4 0) u y=some (jQ,a)/\Prs k a/\vY k.next a u nd/\ldN 4 (.ptr A4 0) a=some u:=fun {u nd y} o Y=>by
  obtain⟨lu,rfl,a4,a5⟩:=Y.1.cells;obtain⟨a,z,g4,s4,n4⟩:=jV o.ok (zRB o f.ok g2) (l':=lu) a4 a5;refine⟨a,z,(f.trans o).fresh s4 (fun B Z=>by omega),⟨Y.1.stp s4 (fun B Z e=> ?_),fun B Z=>by have:=Y.2 B Z;omega⟩,gP g4 a4⟩;have:=Y.2 B Z;omega
 cases ed with
 | put H x=>
  obtain⟨u,y,j,o,S⟩:=zKH (dy m) m hm f.ok (key:=H) (value:=x) (hv.prs f) a2;have a6:zFJ (leafOf I) H x=true:=by simp only[zFJ,a1,show(leafOf I).leaf=true from rfl,ho.1,ho.2,Bool.true_and,decide_true]
  rw[a6]at j S;simp only[if_true,Nd.put_leaf _ _ q.1]at j S;obtain⟨a,z,P4,C,l4⟩:=a3 o S;refine⟨u,a, ?_,P4,C⟩;simp(maxSteps:=999999)(disch:=omega) only[f88,eZ,b1,b2,gP (zRB O t.ok g1) a0,(hb.1.mono N f (fun x=>x)).ld,(hb.2.mono N f (fun x=>x)).ld,j,jN,nth,z,l4,edL,Ed.run]
 | del H=>
  obtain⟨u,y,j,o,S⟩:=zLq (dy m) m hm f.ok (key:=H) (hv.prs f) a2;have h:zPA (leafOf I) H=if(Nd.lookP H I).isSome then 0 else 5:=by
   simp only[zPA,a1,show(leafOf I).leaf=true from rfl,qN,if_true,Nd.here_look _ q.1]
  obtain⟨a,z,P4,C,l4⟩:=a3 o S
  cases T:(Nd.lookP H I).isSome with
  | true=>
   rw[T]at h;simp only[if_true]at h;rw[h]at j;simp only[h,if_true,Nd.del_leaf _ q.1 ((Nd.here_look _ q.1).trans T)]at C;have J:edL (.del H) I=(leafOf (Nd.delP H I),0):=by simp only[edL,Ed.run,T,if_true]
   refine⟨u,a, ?_,P4,by rw[J];exact C⟩;rw[J];simp(maxSteps:=999999)(disch:=omega) only[f83,eZ,b1,b2,gP (zRB O t.ok g1) a0,(Box.mono hb N f (fun x=>x)).ld,j,jN,nth,z,l4]
  | false=>
   rw[T]at h;simp only[zL,qD]at h;rw[h]at j;have h5: ¬(5:Nat)=0:=by decide
   simp only[h,h5,qD]at C;have J:edL (.del H) I=(nd0,5):=by simp only[edL,Ed.run,T,zL,qD]
   refine⟨u,a, ?_,P4,by rw[J];exact C⟩;rw[J];simp(maxSteps:=999999)(disch:=omega) only[f83,eZ,b1,b2,gP (zRB O t.ok g1) a0,(Box.mono hb N f (fun x=>x)).ld,j,jN,nth,z,l4]
theorem zJ6 (m K:Nat)(hm:200000000<=m)(a:k.ok){ed:Ed}{lo hi:Bd}(f:kB k l (leafOf I))(h:Lf lo hi I)(j:wQ I<=10000)(o:ed.ok)(hb:edB k ed n A):
  ∃u H',callV [(76,f76 (dy (m+1)) K),(77,f77 (dy (m+1)) K),(79,f79 (dy (m+1)) K),(129,f129 (dy (m+1)) K),(130,f130 (dy (m+1)) K)] (dy (m+1)) (edF ed n A) [l] k=some (.tuple [u, .int .i64 ((edL ed I).2:Nat)],H')/\callV [(127,f127 (dy (m+1)) K),(126,f126 (dy (m+1)) K),(131,f131 (dy (m+1)) K)] (dy (m+1)) (edF ed n A) [l] k=some (.tuple [u, .int .i64 ((edL ed I).2:Nat)],H')/\Prs k H'/\vY k.next H' u (edL ed I).1:=by
 obtain⟨u,H',e,p,w⟩:=zLi m hm a f h j o hb;refine⟨u,H', ?_, ?_,p,w⟩
 .cases ed with
  | put H x=>exact e
  | del H=>exact e
 .cases ed with
  | put H x=>exact e
  | del H=>exact e
def zGa (Bd a f h j m:Nat):AV:= .func 128 [] [.ptr Bd 0, .ptr a 0, .ptr f 0, .ptr h 0, .ptr j 0, .ptr m 0]
structure Cl (H0 H:AH)(At Ac K V:Nat)(ed:Ed)(Bd Bt Be Bk Bf Bc d:Nat):Prop where
 bd:Box H Bd (.int .i64 (d:Nat))
 bt:Box H Bt (.ptr At 0)
 be:Box H Be (edF ed K V)
 bk:Box H Bk (S ed.key)
 bf:Box H Bf (zGa Bd Bt Be Bk Bf Bc)
 bc:Box H Bc (.ptr Ac 0)
 eb:edB H0 ed K V
 fr:H0.next<=Bd
 n1:Bt≠Bd
 n2:Be≠Bd
 n3:Bk≠Bd
 n4:Bf≠Bd
 n5:Bc≠Bd
theorem _root_.Go.Eng.Box.nchg (H0:Box C G F)(a:Ch X k C n A t H p l h B D): ¬chg A t l G:=fun j=>by
 obtain⟨e,H0⟩:=H0;rcases j with rfl | rfl | j
 .rw[a.gC]at H0;simp at H0
 .rw[a.gF]at H0;cases H0
 .rw[a.gg.get j]at H0;simp at H0
theorem Cl.keep {ed:Ed}{u x:Nat}(H0:Cl k C n A B D ed G M N P R c m)(a:Ch X k C n A t H p l h u x)(s:Stp (chg A t l) C g):Cl k g n A B D ed G M N P R c m:=
 ⟨H0.bd.mono a.prs.ok s (H0.bd.nchg a),H0.bt.mono a.prs.ok s (H0.bt.nchg a),H0.be.mono a.prs.ok s (H0.be.nchg a),H0.bk.mono a.prs.ok s (H0.bk.nchg a),H0.bf.mono a.prs.ok s (H0.bf.nchg a),H0.bc.mono a.prs.ok s (H0.bc.nchg a),H0.eb,H0.fr,H0.n1,H0.n2,H0.n3,H0.n4,H0.n5⟩
theorem Cl.prs {ed:Ed}(h:Cl k C n A t B ed D G M N P R c)(a:C.ok)(s:Prs C g):Cl k g n A t B ed D G M N P R c:=
 ⟨h.bd.mono a s (fun x=>x),h.bt.mono a s (fun x=>x),h.be.mono a s (fun x=>x),h.bk.mono a s (fun x=>x),h.bf.mono a s (fun x=>x),h.bc.mono a s (fun x=>x),h.eb,h.fr,h.n1,h.n2,h.n3,h.n4,h.n5⟩
theorem Cl.deeper {ed:Ed}{F q:Nat}(K:Cl k C n A B D ed G M N P R c m)(a:Ch X k C n A t H p l h F q):
  ∃H',stN 1 (.ptr G 0) (.int .i64 (m+1:Nat)) C=some (jQ,H')/\Cl k H' n A B D ed G M N P R c (m+1)/\Ch X k H' n A t H p l h F q/\Stp (fun H0=>H0=G) C H':=by
 obtain⟨H',e,b,s⟩:=K.bd.st a.prs.ok (x:= .int .i64 (m+1:Nat)) rfl;have o:=K.bd.nchg a;obtain⟨Y,S⟩:=K.bd;refine⟨H',e,⟨b,K.bt.mono a.prs.ok s K.n1,K.be.mono a.prs.ok s K.n2,K.bk.mono a.prs.ok s K.n3,K.bf.mono a.prs.ok s K.n4,K.bc.mono a.prs.ok s K.n5,K.eb,K.fr,K.n1,K.n2,K.n3,K.n4,K.n5⟩, ?_,s⟩;exact a.other s (fun e=>o (.inl e.symm)) (fun e=>o (.inr (.inl e.symm))) (fun H0 j e=>o (.inr (.inr (e▸j)))) (fun kv At H0 j e=>by
  subst e;obtain⟨T,O⟩:=a.pf.mem kv At;exact O.nblk S (.inl ⟨_,_,_,_,rfl,fun _ _ e=>by cases e⟩) j) (fun H0 j=>by rw[j];exact K.fr)
variable {E:Ev}
theorem c9 {ks:List Str}(hl:w.leaf=false)(a:w.keys=ks)(key:Str):Nd.whereN w key=xL ks key:=by
 simp only[Nd.whereN,xL,hl,a,Bool.not_false,Bool.true_and]
theorem ZN: ∀ {n a:Nat} {p:Ptr},p∈pps a n-> ∃j,p=pp j/\a<j/\j<=a+n
 | 0,_,_,h=>by simp[pps]at h
 | n+1,a,p,h=>by
  rcases zK.1 h with rfl | h
  .exact⟨a+1,rfl,by omega,by omega⟩
  .obtain⟨j,e,f,m⟩:=ZN h;exact⟨j,e,by omega,by omega⟩
theorem WY: ∀(n a:Nat),(pps a n).Nodup
 | 0,_=>by simp[pps]
 | n+1,a=>by
  rw[pps,List.nodup_cons];refine⟨fun h=> ?_,WY n (a+1)⟩;obtain⟨j,e,f,_⟩:=ZN h;have:=JI e;omega
def zPh (E:Ev)(X:Nat->Prop)(H0 H H':AH)(At J F K V:Nat)(ed:Ed)(Y Z B3 B4 B5 B6 d:Nat)(q:PN)(f:PN)(g x:AV)(gl:List Ptr)(O o:Nat)(h:Nat)(lo hi:Bd)(t:Bt.Tr h)(S:List Ptr)(p:Ptr)(u:AV)(c':Kvs):Prop:=
 ∃T y z a d' C N G R Fr,∃m:Bt.Tr h,Ch X H0 H' At J F T y x z O a/\Cl H0 H' At J K V ed Y Z B3 B4 B5 B6 d'/\xS X H' x u C/\kT (Qf E q y) h C m N/\WX h lo hi m/\con h m=c'/\(0<h->VV h t<=VV h m+1)/\z=gl++G/\G.length<=2*(h+1)/\
  o<=a/\a<=o+6*h/\d'<=d+h+1/\N.Perm (Fr++R)/\(p::S).Perm (G++R)/\Fr.Nodup/\(∀p∈Fr,∃j,p=pp j/\o<j/\j<=a)/\(∀p nd,Qf E q f p=some nd->Qf E q y p=some nd)/\ ∀B,Blk x B->Blk g B\/H.next<=B
theorem zGI (V:Dyn)(At:Nat){ed:Ed}{A7 F S e7:Nat}{a3 O:Nat}
  (u:Ch X k C n A t H p l h a3 O) (cl:Cl k C n A B D ed G M N P R c m) (g7:C.h.get A7=some (.cells (jS q) e7 1 false)) (g8:C.h.get F=some (.cells [.bool false, .nS, .nS, .nS] 119 1 false)) (Z:C.h.get S=some (.cells e 119 1 false))
  (hu:xS X C l (.agg e) w) (h8:k.next<=F) (a5:F≠A) (b6:A7≠A) (a6:S≠A) (hl:h.length+1<=O+1000) (hb:O<=900000000):
  ∃J H',JO V At [.ptr c 0, .ptr A7 0, .ptr F 0, .ptr S 0, .int .i64 (0:Nat)] C=some (.ret (.tuple [.agg e, .int .i64 (0:Nat)]),H')/\Ch X k H' n A t H p J (h++[q]) a3 O/\Cl k H' n A B D ed G M N P R c m/\xS X H' J (.agg e) w/\
   Stp (fun K=>chg A t l K\/K=F) C H'/\ ∀K,Blk J K->Blk l K\/C.next<=K:=by
 obtain⟨a0,a8⟩:e.length=4/\jP e=true:=by
  obtain⟨_,_,a,b⟩:=QQ hu.1;exact⟨a,b⟩
 obtain⟨J,B1,e1,a2,y⟩:=zIr V At u q hl hb;have np: ∀ {o:Nat} {B3:List AV} {B4:Nat},C.h.get o=some (.cells B3 B4 1 false)->o≠A-> ¬chg A t l o:=fun {o B3 B4} z a9 hc=>by
  rcases hc with B4 | B4 | B4
  .exact a9 B4
  .rw[B4,u.gF]at z;cases z
  .rw[u.gg.get B4]at z;simp at z
 have lt: ∀ {o:Nat} {B3:List AV} {B4:Nat},C.h.get o=some (.cells B3 B4 1 false)->o<C.next:=fun z=>u.prs.ok.lt z
 have H0:B1.h.get F=some (.cells [.bool false, .nS, .nS, .nS] 119 1 false):=by rw[y.1.keep _ (lt g8) (np g8 a5)];exact g8
 have a7:B1.h.get S=some (.cells e 119 1 false):=by rw[y.1.keep _ (lt Z) (np Z a6)];exact Z
 have b0:=u.next hu y
 have j:=cl.keep u y.1;obtain⟨T,e2,b1,Y,n2⟩:=jV a2.prs.ok H0 (l':=e) a0 a8;have b2:stN 4 (.ptr F 0) (.agg e) B1=some (jQ,T):=e2;have b3:=a2.stb H0 Y h8 a5;have nb: ∀ {o:Nat} {x:AV},Box B1 o x->(∀b,x≠ .bool b)->o≠F:=fun {o x} hb hx B4=>by
  obtain⟨_,hb⟩:=hb;rw[B4,H0]at hb;simp at hb
 have b4:Cl k T n A B D ed G M N P R c m:=by
  have B2: ∀ {o:Nat} {x:AV},Box B1 o x->Box T o x:=fun {o x} hb=>hb.mono a2.prs.ok Y (fun B4=>by
   obtain⟨_,hb⟩:=hb;rw[B4,H0]at hb;simp at hb)
  exact⟨B2 j.bd,B2 j.bt,B2 j.be,B2 j.bk,B2 j.bf,B2 j.bc,j.eb,j.fr,j.n1,j.n2,j.n3,j.n4,j.n5⟩
 refine⟨J,T, ?_,b3,b4,b0.stb H0 Y,(y.1.mono fun _ _ x=> .inl x).trans (Y.mono fun _ _ x=> .inr x),y.2⟩;have b5: ¬(((0:Nat):Int)≠((0:Nat):Int)):=by omega
 simp(maxSteps:=999999)(disch:=omega) only[JO,eZ,b5,cl.bc.ld,jR g7,zNx,qA,e1,gP a7 a0,b2,gP b1 a0]
theorem zGJ (D:Dyn)(H:Nat){B6 e:Nat}(x y:AV)(p:k.ok)(q:k.h.get n=some (.cells [.bool false, .nS, .nS, .nS] 119 1 false))(z:e≠0):
  ∃H',JO D H [.ptr B6 0,x, .ptr n 0,y, .int .i64 (e:Nat)] k=some (.ret (.tuple [.agg [.bool false, .nS, .nS, .nS], .int .i64 (e:Nat)]),H')/\Stp (fun B=>B=n) k H':=by
 obtain⟨f,t,j,u,C⟩:=jV p q (l':=[.bool false, .nS, .nS, .nS]) rfl rfl;have m:stN 4 (.ptr n 0) (.agg [.bool false, .nS, .nS, .nS]) k=some (jQ,f):=t;refine⟨f, ?_,u⟩;have o:(e:Int)≠((0:Nat):Int):=by omega
 simp(maxSteps:=999999)(disch:=omega) only[JO,eZ,o,ne_eq,yC,ZX,m,gP j rfl]
theorem zLG (M n a f h j m B6:Nat)(x:AV)(H:AH):callV [(76,f76 (dy (M+1)) n),(77,f77 (dy (M+1)) n),(79,f79 (dy (M+1)) n),(129,f129 (dy (M+1)) n),(130,f130 (dy (M+1)) n)] (dy (M+1)) (zGa a f h j m B6) [x] H=f128 (dy M) M [x, .ptr a 0, .ptr f 0, .ptr h 0, .ptr j 0, .ptr m 0, .ptr B6 0] H:=rfl
noncomputable def zOR (D:Dyn)(n:Nat)(x3 x4 x5 x6 f h a:AV)(H:AH):Rs:=
 bV (fAd 0 a) fun u=>
 bV (ld1 u H) fun x=>
 jn (cnd x (bV (ld1 x3 H) fun y=>
 bV (ldN 4 a H) fun z=>
 bR (callV [(76,f76 D n),(77,f77 D n),(79,f79 D n),(129,f129 D n),(130,f130 D n)] D y [z] H) fun j H=>
 bV (jN j 0) fun C=>
 bV (jN j 1) fun J=>
 bR (stN 4 a C H) fun _ H=>
 some (.norm [x6,f,h,a,J],H))
 (bV (ldN 4 a H) fun K=>
 bV (ld1 x4 H) fun N=>
 bR (f79 D n [K,N] H) fun m H=>
 bA (bxV 119 (.agg [(.bool false), .nS, .nS, .nS])) H fun o H=>
 bV (ld1 x5 H) fun O=>
 bV (fAd 3 a) fun S=>
 bV (ld1 S H) fun T=>
 bV (aS 3 T m) fun Y=>
 bV (ldN 3 Y H) fun Z=>
 bR (callV [(76,f76 D n),(77,f77 D n),(79,f79 D n),(129,f129 D n),(130,f130 D n)] D O [Z] H) fun p H=>
 bV (jN p 0) fun a0=>
 bV (jN p 1) fun q=>
 bR (stN 4 o a0 H) fun _ H=>
 bV (wU .eql q (.int .i64 (.ofNat 0))) fun a1=>
 jn (cnd a1 (bV (ld1 x6 H) fun a2=>
 bV (ldN 4 a H) fun a3=>
 bV (ldN 4 o H) fun a4=>
 bR (f129 D n [a2,a3,m,a4] H) fun t H=>
 bV (jN t 0) fun a5=>
 bV (jN t 1) fun a6=>
 bR (stN 4 a a5 H) fun _ H=>
 some (.norm [x6,f,h,a,a6],H))
 (some (.norm [x6,f,h,a,q],H))) (BE D n))) (JO D n)
theorem zCo (J At:Nat)(hn:200000000<=At){ed:Ed}{d:Nat}{root:Ptr}{a0 a4:Nat}(ti:TI E k n B l F root H p a0 V)(hold: ∀kv∈H,∀u,xT kv.2 u->u<k.next)(b6: ∀kv∈H,∀u,xT kv.2 u-> ¬X u)
  (z:Ch X k C n A t s Q f h a0 a4) (cl:Cl k C n A D G ed M N P R c m d) (hs:Qf E p [] q=some w) (hd:d+1<=8192):
  ∃lv j B2 T a,f128 (dy (J+1)) At [.agg (jS q), .ptr M 0, .ptr N 0, .ptr P 0, .ptr R 0, .ptr c 0, .ptr m 0] C=dH (zOR (dy (J+1)) At (.ptr P 0) (.ptr R 0) (.ptr c 0) (.ptr m 0) (.ptr j 0) (.ptr B2 0) (.ptr T 0) a)/\
   Ch X k a n A t s Q f h a0 a4/\Cl k a n A D G ed M N P R c m (d+1)/\xS X a f (.agg lv) w/\(∃r,lv= .bool w.leaf::r/\lv.length=4/\jP lv=true)/\
   a.h.get j=some (.cells (jS q) 42 1 false)/\a.h.get B2=some (.cells [.bool false, .nS, .nS, .nS] 119 1 false)/\a.h.get T=some (.cells lv 119 1 false)/\
   C.next<=j/\C.next<=B2/\C.next<=T/\j≠B2/\j≠T/\B2≠T/\Stp (fun u=>u=M) C a:=by
 obtain⟨H1,j,b1,Y,g1,m1,n1⟩:=box z.prs.ok (.cells (jS q) 42 1 false);obtain⟨H2,B2,b2,p2,g2,m2,n2⟩:=box Y.ok (.cells [.bool false, .nS, .nS, .nS] 119 1 false);have P2:=Y.trans p2;have b7:=z.step P2;have a6:=cl.prs z.prs.ok P2;obtain⟨H3,e3,a1,o,Z⟩:=a6.deeper b7;have a7:=ti.prs o.prs;have b3:=zO8 (dy (J+1)) At a7;have N1:=Y.next;have N2:=p2.next;have N3:=Z.next
 have d0:M<C.next:=cl.bd.lt z.prs.ok
 have a8:H3.h.get j=some (.cells (jS q) 42 1 false):=by rw[Z.keep _ (by omega) (by omega)];exact zRB p2 Y.ok g1
 have b8:H3.h.get B2=some (.cells [.bool false, .nS, .nS, .nS] 119 1 false):=by rw[Z.keep _ (by omega) (by omega)];exact g2
 obtain⟨v,H4,e4,p4,a2,H0⟩:=zDb J At hn a7 hs;obtain⟨lv,rfl,b9,c0⟩:=a2.cells;obtain⟨H5,T,b5,p5,g5,m5,n5⟩:=box p4.ok (.cells [.bool false, .nS, .nS, .nS] 119 1 false);obtain⟨a,e6,g6,s6,n6⟩:=jV p5.ok g5 (l':=lv) b9 c0;have c1:stN 4 (.ptr T 0) (.agg lv) H5=some (jQ,a):=e6;have N4:=p4.next;have N5:=p5.next
 have K:Prs H3 a:=(p4.trans p5).fresh s6 (fun u S=>by omega);have a9:=o.step K;have a3:kB a (.agg lv) w:=(a2.prs p5).stp s6 (fun u S e=>by
  subst e;have:=a2.lt S;omega)
 have c2:xS X a f (.agg lv) w:=by
  rcases H0 with⟨kk,H0⟩ | b0
  .exact a3.hand a9 (fun u S=>hold _ H0 u S) (b6 _ H0)
  .refine⟨a3,fun u S=>⟨fun hg=> ?_,fun hx=> ?_⟩⟩
   .have h1:=b0 u S;have h2:=zRH o.gg.row hg;omega
   .have h1:=b0 u S;have h2:=z.xo u hx;have h3:=o.prs.next
    omega
 obtain⟨r,c3,c4,c5⟩:=QQ a3;refine⟨lv,j,B2,T,a, ?_,a9,a1.prs o.prs.ok K,c2,⟨r,c3,c4,c5⟩,zRB K o.prs.ok a8,zRB K o.prs.ok b8,g6,by omega,by omega,by omega,by omega,by omega,by omega,((P2.mono fun _ _ x=>x.elim).trans Z).trans (K.mono fun _ _ x=>x.elim)⟩;have c6:(d:Int)+((1:Nat):Int)=((d+1:Nat):Int):=by omega
 have c7: ¬((8192+p.length:Nat):Int)< ((d+1:Nat):Int):=by omega
 have c8:aveq (.int .i64 (d+1:Nat)) (.int .i64 (d+1:Nat))=true:=by
  have:keq .i64 .i64=true:=by rw[xY];simp
  simp only[aveq,this,Bool.true_and,xZ];simp
 have c9: ¬(((0:Nat):Int)≠((0:Nat):Int)):=by omega
 simp(maxSteps:=999999)(disch:=omega) only[f128,ZS,zHZ,bVs,bRs,show ∀(e:TypeId) (O:List AV),bxV e (.agg O)=some (.cells O e 1 false,fun M0=> .ptr M0 0)from fun _ _=>rfl,b1,b2,a6.bd.ld,KQ,wrap_i64,Int.ofNat_eq_natCast,c6,e3,a1.bd.ld,a1.bt.ld,b3,(fun D=>kY rfl c8: ∀D:Rs,chk (some (AV.int .i64 (d+1:Nat))) (.int .i64 (d+1:Nat)) D=D),zFl,c7,decide_false,zGc,zL,qD,jR a8,zNx,qA,e4,jN,nth,b5,c1,zFi,c9];rfl
theorem Cl.stb {ed:Ed}{d:Nat}(h:Cl k C n A t B ed M N P R c m d)(H0:C.ok)(u:C.h.get D=some (.cells e G 1 false))(hl:e.length=4)(s:Stp (fun H=>H=D) C g):Cl k g n A t B ed M N P R c m d:=by
 have H': ∀ {H:Nat} {x:AV},Box C H x->Box g H x:=fun {H x} hb=>hb.mono H0 s (fun G=>by
  obtain⟨_,hb⟩:=hb;rw[G,u]at hb;simp only[zB,AObj.cells.injEq]at hb;rw[hb.1]at hl;simp at hl)
 exact⟨H' h.bd,H' h.bt,H' h.be,H' h.bk,H' h.bf,H' h.bc,h.eb,h.fr,h.n1,h.n2,h.n3,h.n4,h.n5⟩
theorem zOQ {ed:Ed}{B5 B6:Nat}{c6:Nat}(ti:TI E k n G l F q H p c6 V)(hold: ∀kv∈H,∀B,xT kv.2 B->B<k.next)(e0: ∀kv∈H,∀B,xT kv.2 B-> ¬X B)(hq: ∀s nd,jX s p=some nd->s<=c6)(ho:ed.ok):
  ∀(h Ac H0:Nat),200000000+h<=Ac->200000000<=H0-> ∀ {B2:AH} {d b3:Nat} {T:Ptr} {e2:List (AV×AV)} {f:PN} {g:AV} {gl:List Ptr} {nd:Nd.Node} {At:Bt.Tr h} {S:List Ptr} {lo hi:Bd},
   Ch X k B2 n t D e2 f g gl c6 b3->Cl k B2 n t M N ed P R c m B5 B6 d->Qf E p [] T=some nd->kT (Qf E p []) h nd At S->Gen h lo hi At->wK h At<=500->(0<h->nd.keys≠[])->zI4 lo ed.key->hiB hi ed.key->d+h+1<=8192->b3+6*h<=600000000->gl.length+2*(h+1)<=b3+1000->
   ∃u e g' H',f128 (dy (Ac+1)) H0 [.agg (jS T), .ptr P 0, .ptr R 0, .ptr c 0, .ptr m 0, .ptr B5 0, .ptr B6 0] B2=some (.tuple [u, .int .i64 ((e:Nat):Int)],H')/\Stp (fun B=>chg t D g B\/B=P) B2 H'/\(∃B1,u= .agg B1/\B1.length=4/\jP B1=true)/\
    match ed.run (con h At)with
    | none=>e=5
    | some c'=>e=0/\zPh E X k B2 H' n t D M N ed P R c m B5 B6 d p f g g' gl c6 b3 h lo hi At S T u c':=by
 intro h
 induction h with
 | zero=>
  intro Ac H0 hM hn B2 d b3 T e2 f g gl nd At S lo hi ch cl hs rn wg hz _ e3 e4 hd hb o6;obtain⟨rfl,rfl⟩:=rn;obtain⟨lv,A7,A8,O,H6,e6,y,a9,c8,⟨r,d0,a4,o7⟩,g7,g8,a5,m7,m8,o8,o9,l7,l8,c4⟩:=zCo Ac H0 hn ti hold e0 ch cl hs (by omega);have N0:=ch.prs.next;have p1:=ch.ltC;have N6:=c4.next
  have p2:wQ (At:Kvs)<=10000:=by simp only[wK]at hz;omega
  obtain⟨u,H7,e7,_,Y,w7⟩:=zJ6 Ac H0 (by omega) y.prs.ok c8.1 wg p2 ho (a9.eb.prs ti.ok y.prs);obtain⟨lu,rfl,p3,h8⟩:=w7.1.cells;have p4:=y.step Y;have h9:=a9.prs y.prs.ok Y;have c2:=zRB Y y.prs.ok a5;obtain⟨H8,e8,a7,s8,n8⟩:=jV Y.ok c2 (l':=lu) (by omega) h8;have p5:stN 4 (.ptr O 0) (.agg lu) H7=some (jQ,H8):=by rw[a4]at e8;exact e8
  have b5:=h9.stb Y.ok c2 a4 s8;have p6:xS X H7 g (.agg lu) (edL ed At).1:=vY.hand y (zP _) w7;rw[d0]at c2;have a2:=p4.stb c2 s8 (by omega) (by omega);have i0:=p6.stb c2 s8;have N7:=Y.next;have N8:=s8.next
  have b6:H8.h.get A7=some (.cells (jS T) 42 1 false):=by rw[s8.keep _ (by have:=y.prs.ok.lt g7;omega) (by omega)];exact zRB Y y.prs.ok g7
  have b0:H8.h.get A8=some (.cells [.bool false, .nS, .nS, .nS] 119 1 false):=by rw[s8.keep _ (by have:=y.prs.ok.lt g8;omega) (by omega)];exact zRB Y y.prs.ok g8
  have S8:Stp (fun B=>chg t D g B\/B=P) B2 H8:=⟨s8.ok,by omega,fun B K z=>by
   rw[s8.keep B (by omega) (by omega),Y.keep B (by omega) (fun x=>x),c4.keep B K (fun e=>z (.inr e))]⟩
  have p9: ¬(((0:Nat):Int)≠((0:Nat):Int)):=by omega
  have q5:(leafOf (At:Kvs)).leaf=true:=rfl;have run: ∀ {x:Option (AV×AH)} {code:Nat},(edL ed At).2=code->dH (JO (dy (Ac+1)) H0 [.ptr B6 0, .ptr A7 0, .ptr A8 0, .ptr O 0, .int .i64 code] H8)=x->f128 (dy (Ac+1)) H0 [.agg (jS T), .ptr P 0, .ptr R 0, .ptr c 0, .ptr m 0, .ptr B5 0, .ptr B6 0] B2=x:=by
   intro x code hc Z;rw[hc]at e7;rw[e6];simp(maxSteps:=999999)(disch:=omega) only[zOR,eZ,jM a5,d0,q5,a9.be.ld];simp(maxSteps:=999999)(disch:=omega) only[eZ,gP a5 a4,e7,jN,nth,p5];exact Z
  cases hr:ed.run At with
  | none=>
   have d2:edL ed At=(nd0,5):=by simp only[edL,hr]
   obtain⟨H9,e9,J⟩:=zGJ (dy (Ac+1)) H0 (B6:=B6) (.ptr A7 0) (.ptr O 0) a2.prs.ok b0 (e:=5) (by decide);refine⟨.agg [.bool false, .nS, .nS, .nS],5,g,H9,run (by rw[d2]) (by rw[e9];rfl),⟨J.ok,by have:=J.next;omega,fun B K z=>by rw[J.keep B (by omega) (by omega)];exact S8.keep B K z⟩,⟨_,rfl,rfl,rfl⟩, ?_⟩
   simp only[con,hr]
  | some l'=>
   have d2:edL ed At=(leafOf l',0):=by simp only[edL,hr]
   rw[d2]at i0;obtain⟨g',H9,e9,e5,f3,q6,J,b9⟩:=zGI (dy (Ac+1)) H0 a2 b5 b6 b0 a7 i0 (by omega) (by omega) (by omega) (by omega) (by omega) (by omega);obtain⟨w1,w2⟩:=Ed.leaf wg e3 e4 ho hr;refine⟨.agg lu,0,g',H9,run (by rw[d2]) (by rw[e9];rfl),⟨J.ok,by have:=J.next;omega,fun B K z=> ?_⟩,⟨_,rfl,p3,h8⟩, ?_⟩
   .rw[J.keep B (by omega) (fun Z=>by
     rcases Z with Z | Z
     .exact z (.inl Z)
     .omega)]
    exact S8.keep B K z
   .simp only[con,hr];refine⟨trivial,_,_,_,_,_,_,[],[T],[],[],l',e5,f3,q6,⟨rfl,rfl⟩,⟨w1,by simp only[wK]at hz;omega⟩,rfl,fun hh=>absurd hh (by omega),rfl,by simp,by omega,by omega,by omega,by simp,by simp,by simp,by simp,fun _ _ hp=>hp,fun B K=> ?_⟩;rcases b9 B K with e | e
    .exact .inl e
    .exact .inr (by omega)
 | succ h ih=>
  intro Ac H0 hM hn B2 d b3 T e2 f g gl nd At S lo hi ch cl hs rn wg hz c5 e3 e4 hd hb o6;obtain⟨r1,r2,r3,r4⟩:=rn;obtain⟨w1,w2,w3⟩:=id wg;have v4:=w3.len;have k9:=r4.len;obtain⟨lv,A7,A8,O,H6,e6,y,a9,c8,⟨r,d0,a4,o7⟩,g7,g8,a5,m7,m8,o8,o9,l7,l8,c4⟩:=zCo Ac H0 hn ti hold e0 ch cl hs (by omega);have N0:=ch.prs.next;have p1:=ch.ltC;have N6:=c4.next
  have q7:wS At.1 At.2.length<=500:=hz;have q8:small nd:=vJ (by
   have:Nd.size nd=wK (h+1) At:=kT.size (Q:=Qf E p []) (S:=S) ⟨r1,r2,r3,r4⟩;rw[this];simp only[wK];omega)
  have i1:Nd.whereN nd ed.key=xL At.1 ed.key:=c9 r1 r2 _;have l9:xL At.1 ed.key<=At.1.length:=zB1 _ _;have i2:xL At.1 ed.key<At.2.length:=by omega
  obtain⟨sA,sB⟩:=zCX (key:=ed.key) (ks:=At.1) (ts:=At.2) wg;have i3:=zA2 (lo:=lo) w2 e3;have i4:=zA3 (hi:=hi) w2 e4;generalize v3:xL At.1 ed.key=i at i1 l9 i2 sA sB i3 i4;have d3:=zQ i2;obtain⟨pk,q9,Sa,Si,Sb,k1,k2,k3,k4,k5,k6⟩:=r4.at d3;have r5:=k2;have wk:=KB.at w3 d3;have r6:0<h->q9.keys≠[]:=fun hh=>by
   cases h with
   | zero=>omega
   | succ h=>
    have:=X9 wk;rw[k3.2.1];intro e;rw[e]at this;simp at this
  obtain⟨H7,e7,Y⟩:=QH (dy (Ac+1)) H0 hn y.prs.ok (key:=ed.key) c8.1.node q8;rw[i1]at e7;obtain⟨H8,f4,b8,p8,i5,v9,r7⟩:=box Y.ok (.cells [.bool false, .nS, .nS, .nS] 119 1 false);have b1:=Y.trans p8;have a2:=y.step b1;have b5:=a9.prs y.prs.ok b1;have h9:=a9.prs y.prs.ok Y;have a3:=c8.prs b1;have b6:=zRB b1 y.prs.ok g7;have b0:=zRB b1 y.prs.ok g8;have a7:=zRB b1 y.prs.ok a5;obtain⟨ks,r8,ps,i6,j1,j2,j3⟩:=id a3.1;simp only[AV.agg.injEq]at i6;obtain⟨qk,ik,i7⟩:=gZ.at (l:=nd.kids) j3.row (i:=i) (by omega);have r9:nd.kids[i]'(by omega)=pk:=by
   rw[zQ (by omega)]at k1;exact qT k1
  rw[r9]at i7;have N7:=Y.next;have N8:=p8.next
  obtain⟨M',rfl⟩: ∃M',Ac=M'+1:=⟨Ac - 1,by omega⟩;obtain⟨u1,e1,g1,H9,e9,J,⟨l1,rfl,i8,s0⟩,b4⟩:=ih M' (M'+1) (by omega) (by omega) a2 b5 r5 k3 wk.gen wk.sz r6 i3 i4 (by omega) (by omega) (by omega);have b7: ∀ {A:Nat} {o:AObj},H8.h.get A=some o->A<H8.next:=fun M0=>a2.prs.ok.lt M0
  have np: ∀ {A:Nat} {B1:List AV} {e:Nat},H8.h.get A=some (.cells B1 e 1 false)->B1.length≠1->A≠t-> ¬(chg t D g A\/A=P):=fun {A B1 e} M0 hl c5 hc=>by
   rcases hc with(e | e | e) | e
   .exact c5 e
   .rw[e,a2.gF]at M0;cases M0
   .rw[a2.gg.get e]at M0;simp at M0
   .obtain⟨_,hb⟩:=b5.bd;rw[e,hb]at M0;simp only[zB,AObj.cells.injEq]at M0;rw[<-M0.1]at hl;simp at hl
  have s1:lv.length≠1:=by omega
  have s2:H9.h.get A7=some (.cells (jS T) 42 1 false):=by rw[J.keep _ (b7 b6) (np b6 (by simp[jS]) (by omega))];exact b6
  have s3:H9.h.get A8=some (.cells [.bool false, .nS, .nS, .nS] 119 1 false):=by rw[J.keep _ (b7 b0) (np b0 (by simp) (by omega))];exact b0
  have m0:H9.h.get O=some (.cells lv 119 1 false):=by rw[J.keep _ (b7 a7) (np a7 s1 (by omega))];exact a7
  have c3:H9.h.get f4=some (.cells [.bool false, .nS, .nS, .nS] 119 1 false):=by rw[J.keep _ r7 (np i5 (by simp) (by omega))];exact i5
  obtain⟨a0,s4,l0,a1,w0⟩:=jV J.ok c3 (l':=l1) i8 s0;have m1:stN 4 (.ptr f4 0) (.agg l1) H9=some (jQ,a0):=s4;have N9:=J.next;have w4:=a1.next
  have t7:=b7 b6;have t8:=b7 b0;have t10:=b7 a7;have w5:y.prs.ok.lt g7=y.prs.ok.lt g7:=rfl;have u7:=y.prs.ok.lt g7;have u8:=y.prs.ok.lt g8;have w6:=y.prs.ok.lt a5;have g9:a0.h.get A7=some (.cells (jS T) 42 1 false):=by rw[a1.keep _ (by omega) (by omega)];exact s2
  have d7:a0.h.get A8=some (.cells [.bool false, .nS, .nS, .nS] 119 1 false):=by rw[a1.keep _ (by omega) (by omega)];exact s3
  have d5:a0.h.get O=some (.cells lv 119 1 false):=by rw[a1.keep _ (by omega) (by omega)];exact m0
  have i9:Stp (fun B=>chg t D g B\/B=P) B2 a0:=⟨a1.ok,by omega,fun B K z=>by
   rw[a1.keep B (by omega) (by omega),J.keep B (by omega) z,b1.keep B (by omega) (fun x=>x),c4.keep B K (fun e=>z (.inr e))]⟩
  have a8:=Ed.run_mid ed (A:=(At.2.take i).flatMap (con h)) (C:=con h At.2[i]) (B:=(At.2.drop (i+1)).flatMap (con h)) sA sB;have m2:con (h+1) At=(At.2.take i).flatMap (con h)++con h At.2[i]++(At.2.drop (i+1)).flatMap (con h):=by
   have:At.2=At.2.take i++[At.2[i]]++At.2.drop (i+1):=zE6 d3;simp only[con]
   conv=>lhs;rw[this]
   simp only[yY,qI,List.flatMap_nil,yG]
  rw[<-m2]at a8;have p9: ¬(((0:Nat):Int)≠((0:Nat):Int)):=by omega
  have j0:lv=[.bool nd.leaf,ks,r8,ps]:=i6;have head: ∀ {x:Option (AV×AH)},dH (jn (bV (wU .eql (.int .i64 e1) (.int .i64 (.ofNat 0))) fun s5=>jn (cnd s5 (bV (ld1 (.ptr B6 0) a0) fun s6=>bV (ldN 4 (.ptr O 0) a0) fun s7=>bV (ldN 4 (.ptr f4 0) a0) fun t0=>bR (f129 (dy (M'+1+1)) H0 [s6,s7, .int .i64 (i:Nat),t0] a0) fun j4 B2=>
    bV (jN j4 0) fun t3=>bV (jN j4 1) fun t4=>bR (stN 4 (.ptr O 0) t3 B2) fun _ B2=>some (.norm [.ptr B6 0, .ptr A7 0, .ptr A8 0, .ptr O 0,t4],B2)) (some (.norm [.ptr B6 0, .ptr A7 0, .ptr A8 0, .ptr O 0, .int .i64 e1],a0))) (BE (dy (M'+1+1)) H0)) (JO (dy (M'+1+1)) H0))=x->
    f128 (dy (M'+1+1)) H0 [.agg (jS T), .ptr P 0, .ptr R 0, .ptr c 0, .ptr m 0, .ptr B5 0, .ptr B6 0] B2=x:=by
   intro x Z;rw[e6,<-Z];have h0:ld1 (.ptr O 0) H6=some (.bool false):=by rw[jM a5,j0,r1];rfl
   have h3:ld1 (.ptr O 3) H8=some ps:=by rw[jM a7,j0];rfl
   simp(maxSteps:=999999)(disch:=omega) only[zOR,eZ,h0,gP a5 a4,a9.bk.ld,e7,b8,b5.bf.ld,h3,ik,i7,zLG,e9,jN,nth,m1]
  cases hr:ed.run (con h At.2[i])with
  | none=>
   rw[hr]at b4 a8;simp only[Option.map_none]at a8;have b4:e1=5:=b4;subst b4;obtain⟨c0,f5,f6⟩:=zGJ (dy (M'+1+1)) H0 (B6:=B6) (.ptr A7 0) (.ptr O 0) a1.ok d7 (e:=5) (by decide);have h50: ¬((5:Nat):Int)=((0:Nat):Int):=by omega
   refine⟨.agg [.bool false, .nS, .nS, .nS],5,g,c0,head ?_,⟨f6.ok,by have:=f6.next;omega,fun B K z=>by rw[f6.keep B (by omega) (by omega)];exact i9.keep B K z⟩,⟨_,rfl,rfl,rfl⟩, ?_⟩
   .simp(maxSteps:=999999)(disch:=omega) only[eZ,h50,BE,f5]
   .rw[a8]
  | some c1=>
   rw[hr]at b4 a8;simp only[qA]at a8;obtain⟨rfl,v5,f1,j5,g4,d1,t5,S1,G1,R1,t6,t1,e5,f3,t9,j6,u0,m3,u3,h1,w8,w9,v6,x0,j7,h2,m4,j8,l3,f7⟩:=b4;have c7:=e5.stb c3 a1 (by omega) (by omega);have h4:=f3.stb J.ok c3 rfl a1;have m5:=t9.stb c3 a1;have u4:xS X H9 g1 (.agg lv) nd:=⟨a3.1.stp J (fun B K hc=>by
    rcases hc with(e | e | e) | e
    .subst e;exact a3.1.nblk a2.gC (.inl ⟨_,_,_,_,rfl,fun _ _ e=>by cases e⟩) K
    .subst e;exact a3.1.nblk a2.gF (.inr (.inl ⟨_,_,rfl⟩)) K
    .exact(a3.2 B K).1 e
    .obtain⟨_,hb⟩:=b5.bd;subst e;exact a3.1.nblk hb (.inl ⟨_,_,_,_,rfl,fun _ _ e=>by cases e⟩) K),fun B K=>⟨fun M0=>by
    rcases f7 B M0 with e | e
    .exact(a3.2 B K).1 e
    .have:=a3.1.lt K;omega,(a3.2 B K).2⟩⟩
   have m6:=u4.stb c3 a1;have m9:0<h->t5.keys≠[]:=fun hh=>by
    have f8:=u3 hh
    cases h with
    | zero=>omega
    | succ h=>
     have:=X9 wk;simp only[VV]at f8;rw[j6.2.1];intro e;rw[e]at f8;simp at f8;omega
   have v7:j5.length=gl.length+G1.length:=by rw[h1,zV]
   obtain⟨u2,c0,n0,f2,g2,j9,g5,u5,t2,S2,G2,R2,f5,d8,a6,h5,n1,u6,l4,x3,k11,x4,x5,h6,k0,h7,l5,x6⟩:=zFL (M'+1) H0 hn ti hold e0 hq c7 m6 m5 r1 r2 r3 k9 wg (by rw[<-r2];exact c5 (by omega)) q7 d3 k4 k5 j6 u0 m9 (by omega) (by omega);obtain⟨l2,rfl,u9,k7⟩:=h5.1.cells;have d9: ∀ {A:Nat} {B1:List AV} {e:Nat},a0.h.get A=some (.cells B1 e 1 false)->A≠t-> ¬chg t D g1 A:=fun {A B1 e} M0 c5 hc=>by
    rcases hc with e | e | e
    .exact c5 e
    .rw[e,c7.gF]at M0;cases M0
    .rw[c7.gg.get e]at M0;simp at M0
   have x7:=a6.1.next
   have n2:c0.h.get A7=some (.cells (jS T) 42 1 false):=by rw[a6.1.keep _ (by omega) (d9 g9 (by omega))];exact g9
   have n3:c0.h.get A8=some (.cells [.bool false, .nS, .nS, .nS] 119 1 false):=by rw[a6.1.keep _ (by omega) (d9 d7 (by omega))];exact d7
   have d6:c0.h.get O=some (.cells lv 119 1 false):=by rw[a6.1.keep _ (by omega) (d9 d5 (by omega))];exact d5
   obtain⟨f9,k8,l6,b2,x8⟩:=jV d8.prs.ok d6 (l':=l2) (by omega) k7;have n4:stN 4 (.ptr O 0) (.agg l2) c0=some (jQ,f9):=by rw[a4]at k8;exact k8
   have n5:=h4.keep c7 a6.1;have n6:=n5.stb d8.prs.ok d6 a4 b2;have d4:=d6;rw[d0]at d4;have n7:=d8.stb d4 b2 (by omega) (by omega);have n9:=h5.stb d4 b2;have x9:=b2.next
   have o0:f9.h.get A7=some (.cells (jS T) 42 1 false):=by rw[b2.keep _ (by omega) (by omega)];exact n2
   have o1:f9.h.get A8=some (.cells [.bool false, .nS, .nS, .nS] 119 1 false):=by rw[b2.keep _ (by omega) (by omega)];exact n3
   have v8:j9.length=j5.length+G2.length:=by rw[h6,zV]
   obtain⟨g3,v0,v1,o2,o3,o4,g0,v2⟩:=zGI (dy (M'+1+1)) H0 n7 n6 o0 o1 l6 n9 (by omega) (by omega) (by omega) (by omega) (by omega) (by omega);have g6: ∀B,Blk g2 B->Blk g B\/H8.next<=B:=fun B K=>by
    rcases a6.2 B K with e | e
    .exact f7 B e
    .exact .inr (by omega)
   refine⟨.agg l2,0,g3,v0,head ?_,⟨g0.ok,by have:=g0.next;omega,fun B K z=> ?_⟩,⟨_,rfl,u9,k7⟩, ?_⟩
   .simp(maxSteps:=999999)(disch:=omega) only[eZ,h4.bc.ld,gP d5 a4,gP l0 i8,f5,jN,nth,n4,BE,v1]
   .rw[g0.keep B (by omega) (fun Z=>by
     rcases Z with(e | e | e) | e
     .exact z (.inl (.inl e))
     .exact z (.inl (.inr (.inl e)))
     .rcases g6 B e with e | e
      .exact z (.inl (.inr (.inr e)))
      .omega
     .omega),b2.keep B (by omega) (by omega),a6.1.keep B (by omega) (fun Z=>by
     rcases Z with e | e | e
     .exact z (.inl (.inl e))
     .exact z (.inl (.inr (.inl e)))
     .rcases f7 B e with e | e
      .exact z (.inl (.inr (.inr e)))
      .omega)]
    exact i9.keep B K z
   .rw[a8];refine⟨rfl,n0,f2,j9++[T],g5,d1,u5,S2,G1++G2++[T],R2++R1,pps g4 (g5 - g4)++t6,t2,o2,o3,o4,n1,⟨u6,by omega⟩,by rw[l4,m3],fun _=>by simp only[VV];exact k11,by rw[h6,h1];simp,by simp;omega,by omega,by omega,by omega, ?_, ?_, ?_, ?_,fun B3 nd hp=>l5 B3 nd (l3 B3 nd hp),fun B K=> ?_⟩
    .rw[List.perm_iff_count]at j7 k0⊢;intro a;have x1:=j7 a;have x2:=k0 a;simp only[List.count_append]at x1 x2⊢;omega
    .rw[k6];rw[List.perm_iff_count]at h2 h7⊢;intro a;have x1:=h2 a;have x2:=h7 a;simp only[List.count_append,List.count_cons,List.count_nil]at x1 x2⊢;omega
    .rw[List.nodup_append];refine⟨WY _ _,m4,fun a ha b hb e=> ?_⟩;obtain⟨j,rfl,q1,q2⟩:=ZN ha;obtain⟨j',e',q3,q4⟩:=j8 b hb;rw[e']at e;have:=JI e;omega
    .intro B3 hp;rcases zZ.1 hp with hp | hp
     .obtain⟨j,rfl,q1,q2⟩:=ZN hp;exact⟨j,rfl,by omega,by omega⟩
     .obtain⟨j,rfl,q1,q2⟩:=j8 B3 hp;exact⟨j,rfl,by omega,by omega⟩
    .rcases v2 B K with e | e
     .rcases g6 B e with e | e
      .exact .inl e
      .exact .inr (by omega)
     .exact .inr (by omega)
end Go.Eng.Sh
end
section
namespace Go.Eng
theorem zEH {t:T AObj} : ∀(n A:Nat),(∀C,A<=C->t.get C=none)->zG2 t A n=true
 | 0,_,_=>rfl
 | n+1,A,h=>by
  simp only[zG2,h A (zP _),kE];exact zEH n _ fun C a=>h C (by simp only[Nat.succ_eq_add_one]at a;omega)
theorem zDW: ∀ {l e:List (AV×AV)},(∀x∈l,kZ x.1 e=none)->l.Pairwise (fun a b=>aveq b.1 a.1=false)->U4 e l=e++l
 | [],e,_,_=>by simp[U4]
 | x::l,e,h,hp=>by
  rw[qQ]at hp;have f:ups e x=e++[x]:=by
   obtain⟨k,v⟩:=x;simp only[ups,Sh.setA_none (h (k,v) (zJ ..))]
  have m: ∀ {k:AV} {a b:List (AV×AV)},kZ k a=none->kZ k b=none->kZ k (a++b)=none:=by
   intro k a b
   induction a with
   | nil=>intro _ h;exact h
   | cons c a ih=>
    intro f o;simp only[qF,kZ]at f⊢
    cases e:aveq k c.1 with
    | true=>rw[e]at f;cases f
    | false=>rw[e]at f;simp only[qH]at f⊢;exact ih f o
  simp only[U4,f];rw[zDW (l:=l) (fun y j=>m (h y (zC _ j)) (by
   simp only[kZ,hp.1 y j,qH])) hp.2]
  simp
end Go.Eng
namespace Go.Eng.Sh
open Go.Nd (Ptr sumL)
open Go.Bt
def cX:PN->List Ptr->PN
 | q,[]=>q
 | q,p::gl=>cX (if p.at_=1 then zF6 p.sum.toNat q else q) gl
theorem J4: ∀(gl:List Ptr) (q:PN) (p:Ptr),cX q (gl++[p])=if p.at_=1 then zF6 p.sum.toNat (cX q gl)else cX q gl
 | [],_,_=>rfl
 | _::gl,q,p=>by simp only[qF,cX,J4 gl]
theorem zF5 (s:Nat): ∀q:PN,(zF6 s q).length<=q.length
 | []=>zP _
 | (t,n)::q=>by
  simp only[zF6];split
  .simp
  .have:=zF5 s q;simp;omega
theorem zF4 (s:Nat): ∀ {q:PN} {x:Nat×Nd.Node},x∈zF6 s q->x∈q
 | [],_,h=>h
 | (t,n)::q,x,h=>by
  simp only[zF6]at h;split at h
  .exact zC _ h
  .rcases zK.1 h with h | h
   .exact h▸zJ ..
   .exact zC _ (zF4 s h)
theorem zBR {s t:Nat}(h:s≠t): ∀q:PN,jX s (zF6 t q)=jX s q
 | []=>rfl
 | (a,n)::q=>by
  simp only[zF6];split
  .rename_i e;simp only[jX];rw[if_neg (fun f=>h (f.symm.trans e))]
  .simp only[jX,zBR h q]
theorem V1 {s:Nat} : ∀ {q:PN},jX s q=none->zF6 s q=q
 | [],_=>rfl
 | (a,n)::q,h=>by
  simp only[jX]at h;split at h
  .cases h
  .rename_i e;simp only[zF6,if_neg e,V1 h]
theorem V0 {H:AH}{s:Nat} : ∀ {es:List (AV×AV)} {q:PN},uP H es q->jX s q=none->zJg (.int .u64 (s:Nat)) es=none
 | [],[],_,_=>rfl
 | (k,v)::es,(t,nd)::q,h,hl=>by
  obtain⟨⟨rfl,_⟩,a⟩:=h;simp only[jX]at hl;split at hl
  .cases hl
  .rename_i e;have f: ¬s=t:=fun h=>e h.symm
   simp only[zJg,zLP,f,decide_false,qH,V0 a hl]
 | [],_::_,h,_=>h.elim
 | _::_,[],h,_=>h.elim
theorem BL {s:Nat} : ∀ {gl:List Ptr} {q:PN},(∀p∈gl,p.at_=1->s≠p.sum.toNat)->jX s (cX q gl)=jX s q
 | [],_,_=>rfl
 | p::gl,q,h=>by
  rw[cX,BL fun p hp=>h p (zC _ hp)];by_cases e:p.at_=1
  .rw[if_pos e,zBR (h p (zJ ..) e)]
  .rw[if_neg e]
theorem Y7: ∀ {gl:List Ptr} {q:PN} {x:Nat×Nd.Node},x∈cX q gl->x∈q
 | [],_,_,h=>h
 | p::gl,_,_,h=>by
  have a:=Y7 (gl:=gl) h;split at a
  .exact zF4 _ a
  .exact a
theorem Y8: ∀(gl:List Ptr) (q:PN),(cX q gl).length<=q.length
 | [],_=>zP _
 | p::gl,q=>by
  refine qM (Y8 gl _) ?_;split
  .exact zF5 _ q
  .exact zP _
theorem vC {s:Nat}{nd:Nd.Node} : ∀ {q:PN},jX s q=some nd->(s,nd)∈q
 | [],h=>by cases h
 | (t,n)::q,h=>by
  simp only[jX]at h;split at h
  .rename_i e;subst e;simp only[zB]at h;subst h;exact zJ ..
  .exact zC _ (vC h)
theorem uP.keys {H:AH} : ∀ {es:List (AV×AV)} {q:PN},uP H es q-> ∀kv∈es,∃s,kv.1= .int .u64 ((s:Nat):Int)/\s∈q.map Prod.fst
 | [],[],_,_,h=>by simp at h
 | (k,v)::es,(t,nd)::q,hq,kv,a=>by
  rcases zK.1 a with rfl | a
  .exact⟨t,hq.1.1,by simp⟩
  .obtain⟨s,f,j⟩:=uP.keys hq.2 kv a;exact⟨s,f,zC _ j⟩
 | [],_::_,h,_,_=>h.elim
 | _::_,[],h,_,_=>h.elim
theorem uP.dist {H:AH} : ∀ {es:List (AV×AV)} {q:PN},uP H es q->(q.map Prod.fst).Nodup->es.Pairwise (fun a b=>aveq b.1 a.1=false)
 | [],[],_,_=>List.Pairwise.nil
 | (k,v)::es,(t,nd)::q,hq,hd=>by
  simp only[yJ,List.nodup_cons]at hd;rw[qQ];refine⟨fun kv f=> ?_,uP.dist hq.2 hd.2⟩;obtain⟨s,j,m⟩:=uP.keys hq.2 kv f;rw[j,hq.1.1,zLP,yO];intro e;subst e;exact hd.1 m
 | [],_::_,h,_=>h.elim
 | _::_,[],h,_=>h.elim
theorem uP.append {H:AH}{es':List (AV×AV)}{a:PN}(f:uP H es' a): ∀ {es:List (AV×AV)} {q:PN},uP H es q->uP H (es++es') (q++a)
 | [],[],_=>f
 | _::es,_::q,h=>⟨h.1,uP.append f h.2⟩
 | [],_::_,h=>h.elim
 | _::_,[],h=>h.elim
theorem uP.isAg {H:AH}{es:List (AV×AV)}{q:PN}(h:uP H es q):es.all (fun e=>xO [10] e.1&&Eng.isAg 4 e.2)=true:=by
 rw[yD];intro kv a;obtain⟨s,f,_⟩:=h.keys kv a;obtain⟨nd,j⟩:=h.mem kv a;obtain⟨l,m,o,p⟩:=j.cells;rw[f,m,zQn,Bool.true_and];simp only[Eng.isAg,jZ,o,p,yE,qN]
noncomputable def AH.putB (H:AH)(A:Nat)(o:AObj)(k:Nat):AH:=⟨(H.put A o).h,H.next+k⟩
theorem zKJ (j:k.ok)(p:n<k.next)(o:AObj)(H:Nat):Stp (fun B=>B=n) k (AH.putB k n o H)/\(AH.putB k n o H).h.get n=some o:=by
 have a: ∀B,(AH.putB k n o H).h.get B=if B=n then some o else k.h.get B:=fun B=>zRt k n o B
 refine⟨⟨fun B f=> ?_, ?_,fun B _ m=> ?_⟩, ?_⟩
 .have f:k.next+H<=B:=f
  rw[a,if_neg (by omega)];exact j B (by omega)
 .show k.next<=k.next+H;omega
 .rw[a,if_neg m]
 .rw[a,if_pos rfl]
theorem zKa (m:k.ok)(o:k.h.get n=some (.map [10] H))(F:k.h.get A=some (.map [10] s))(j:n≠A)(hp:uP k H p):
  zNm [10] 1 (isAg 4) (.map n) (.map A) k=some (AH.putB k A (.map [10] (U4 s H)) (1+1*H.length)):=by
 have hb:Nat.beq n A=false:=by rw[qY];intro h;exact j (Nat.eq_of_beq_eq_true h)
 simp only[zNm,o,F,show Y4 [10] [10]=true from rfl,hb,hp.isAg,Bool.not_false,qN,zO,kE,zEH _ _ m,kR,AH.putB,zRr,Nat.add_assoc]
variable {E:Ev}
def Ev.drop (E:Ev)(gl:List Ptr):Ev:=⟨E.nb,E.ws,E.dl++gl.filter fun p=>decide (p.at_≠1),E.x⟩
theorem zEX (E:Ev)(gl:List Ptr):(E.drop gl).dl.length<=E.dl.length+gl.length:=by
 simp only[Ev.drop,zV];have:=List.length_filter_le (fun p:Ptr=>decide (p.at_≠1)) gl;omega
theorem TI.dks (h:TI E k n A l F q H p t V)(s:Stp i k C)(f: ∀B,i B->B=n\/B=A\/Blk V B\/k.next<=B): ∃Ad j m o H',l= .ptr Ad 0/\DkI C Ad E.nb E.ws j m o H':=by
 obtain⟨Ad,j,m,o,H',rfl,hd⟩:=h.dk;have u: ∀ {B:Nat} {ks:List Nat} {x:List (AV×AV)},ks≠[10]->k.h.get B=some (.map ks x)-> ¬i B:=fun {B ks x} z g a=>by
  rcases f B a with e | e | e | e
  .rw[e,h.gT]at g;cases g
  .rw[e,h.gM]at g;simp only[zB,AObj.map.injEq]at g;exact z g.1.symm
  .exact zRE h.dg g (fun _ _ e=>by cases e) e
  .have:=h.ok.lt g;omega
 refine⟨Ad,j,m,o,H',rfl,hd.stp h.ok s (fun a=> ?_) (u (by decide) hd.gO) (u (by decide) hd.gN) fun B S a=> ?_⟩
 .rcases f Ad a with e | e | e | e
  .have g:=hd.gD;rw[e,h.gT]at g;simp[wN]at g
  .have g:=hd.gD;rw[e,h.gM]at g;cases g
  .exact zRE h.dg hd.gD (fun _ _ e=>by simp at e) e
  .have:=h.ok.lt hd.gD;omega
 .have g:=hd.ow.get S;rcases f B a with e | e | e | e
  .rw[e,h.gT]at g;simp at g
  .rw[e,h.gM]at g;cases g
  .exact zRE h.dg g (fun _ _ e=>by simp at e) e
  .have:=h.ok.lt g;omega
theorem zQX {s:Nat}(f:k.ok)(a:k.h.get n=some (.map [10] H))(hp:uP k H p):
  ∃es' H',dlM [10] (.map n) (.int .u64 (s:Nat)) k=some (.tuple [],H')/\H'.h.get n=some (.map [10] es')/\uP H' es' (zF6 s p)/\Stp (fun B=>B=n) k H'/\ ∀kv∈es',kv∈H:=by
 cases hl:jX s p with
 | none=>
  refine⟨H,k, ?_,a,by rw[V1 hl];exact hp,zRx f,fun _ h=>h⟩;simp only[dlM,zQn,a,show Y4 [10] [10]=true from rfl,zO,V0 hp hl]
 | some nd=>
  obtain⟨es',o,M,t⟩:=hp.del s nd hl;have j:Stp (fun B=>B=n) k (k.put n (.map [10] es')):=(zRx f).put (f.lt a) _ (.inr rfl);refine⟨es',k.put n (.map [10] es'), ?_,by rw[zRt,if_pos rfl],M.frame fun kv x y m=>m.stp j fun B u e=> ?_,j,t⟩
  .simp only[dlM,zQn,a,show Y4 [10] [10]=true from rfl,zO,o,kR]
  .subst e;exact m.nblk a (.inr (.inl ⟨_,_,rfl⟩)) u
theorem XR {α:Type}(f:α->Bool)(l:List α)(a:α):(l++[a]).filter f=l.filter f++(if f a then[a]else[]):=by
 rw[jH];cases h:f a<;>simp[h]
theorem zJb (es:Dyn)(At:Nat){root:Ptr}(j:TI E k n B l F q H p D V)(hq: ∀N nd,jX N p=some nd->N<=D)
  (u:Ch (XE E V) k C n A t s Q f h D G) (h8: ∀c∈h,0<=c.sum) (hl:G<=900000000) (y:h.length<At) (k3:p.length<=D) (k4:E.dl.length+h.length<=900000000):
  ∃H' es' d5,f126 es At [.ptr A 0, .agg (jS root)] C=some (.tuple [],H')/\TI (E.drop h) H' n B l F root es' (cX p h++Q) G d5/\Stp (fun M=>M=n\/M=B\/Blk V M) k H'/\ ∀M,Blk d5 M->Blk V M\/k.next<=M:=by
 have h9:=j.prs u.prs;have k1:=u.few;obtain⟨Ad,od,hd⟩:=j.hd;obtain⟨H1,A3,b1,p1,g1,m1,n1⟩:=box u.prs.ok (.cells (jS root) 42 1 false);have a6:=u.step p1;have a8:=h9.prs p1;have k2:n<k.next:=j.ok.lt j.gT
 have k5:B<k.next:=j.ok.lt j.gM
 have g7: ∀M,Blk V M->M<k.next:=fun M a=>j.dg.lt a
 have N0:=u.prs.next;have N1:=p1.next
 have cC:=u.dC;have cF:=u.dF;have lC:=u.ltC;have lF:=u.ltF;have b5:n≠B:=fun e=>by have:=j.gT;rw[e,j.gM]at this;cases this
 have nS: ∀M,k.next<=M-> ¬(M=B\/M=n\/Blk V M):=fun M a root0=>by
  rcases root0 with e | e | e
  .omega
  .omega
  .have:=g7 M e;omega
 have k6: ¬Blk V B:=zRE j.dg j.gM (fun _ _ e=>by cases e);have k7: ¬Blk V n:=zRE j.dg j.gT (fun _ _ e=>by simp at e);have d6: ∀kv∈H,∀M,xT kv.2 M->M<k.next:=fun kv H0 M a=>by
  obtain⟨d7,c4⟩:=j.pq.mem kv H0;exact c4.lt a
 have lp:=vS (b:=XW es At) h.length (fun i us H'=>us=[.ptr A 0, .ptr A3 0, .ptr n 0,f, .int .i64 (h.length:Nat), .int .i64 (i:Nat)]/\Stp (fun M=>M=B\/M=n\/Blk V M) H1 H'/\ ∃a9 a4,H'.h.get B=some (.map [10] a9)/\uP H' a9 (cX p (h.take i))/\H'.h.get n=some (.cells (wN l F q B D a4) 140 1 false)/\
   wB 3 42 H' a4 (E.drop (h.take i)).dl.length ((E.drop (h.take i)).dl.flatMap jS)/\(∀M,Blk a4 M->Blk V M\/H1.next<=M)/\ ∀kv∈a9,kv∈H) (fun i us H' hi ⟨i0,st,a9,a4,hM,hp,gT,dg,db,hes⟩=>by
  subst i0;have i3:h[i]∈h:=yK hi;obtain⟨c,d8⟩: ∃c,c=h[i]:=⟨_,rfl⟩;have d9:=h8 _ i3;have og:Own 3 42 H' f h.length (h.flatMap jS):=a6.gg.mono st fun M a=>nS M (u.gN M a)
  obtain⟨pq,i1,i2⟩:=gZ.at (l:=h) og.row hi;rw[<-d8]at i2 d9;have b8:h.take (i+1)=h.take i++[c]:=by rw[qJ hi,d8]
  obtain⟨T,A6,b2,p2,g2,m2,n2⟩:=box st.ok (.cells [.int .i64 (0:Nat), .int .i64 (0:Nat), .int .u64 (0:Nat)] 42 1 false);obtain⟨J,e3,g3,Y,n3⟩:=jV p2.ok g2 (l':=jS c) rfl rfl;have e0:stN 3 (.ptr A6 0) (.agg (jS c)) T=some (jQ,J):=e3;have N2:=st.next;have N3:=p2.next
  have O:Prs H' J:=p2.fresh Y (fun M a=>by omega);have N4:=O.next
  have b9:=zRB O st.ok hM;have a7:=zRB O st.ok gT;have b0:=dg.mono O fun _ _ x=>x
  have e7:=hp.frame fun kv _ nd y=>y.prs O
  have e8:((i:Nat):Int)< (h.length:Int):=by omega
  have f0:ld1 (.ptr A6 0) J=some (.int .i64 c.at_):=by rw[jM g3];rfl
  have f2:ld1 (.ptr A6 2) J=some (.int .u64 c.sum.toNat):=by
   rw[jM g3,Int.toNat_of_nonneg d9];rfl
  have f3:ldN 3 (.ptr A6 0) J=some (.agg (jS c)):=by rw[jR g3];rfl
  have f5:ld1 (.ptr n 5) J=some (.map B):=by rw[jM a7];rfl
  have f7:ld1 (.ptr n 7) J=some a4:=by rw[jM a7];rfl
  by_cases h1:c.at_=1
  .obtain⟨i4,S,e4,i5,i6,Z,g8⟩:=zQX (s:=c.sum.toNat) O.ok b9 e7;have c5:c.at_=((1:Nat):Int):=h1;have i7:S.h.get n=some (.cells (wN l F q B D a4) 140 1 false):=by
    rw[Z.keep _ (by omega) b5];exact a7
   have c6:E.drop (h.take (i+1))=E.drop (h.take i):=by
    rw[b8,Ev.drop,Ev.drop,XR,if_neg (by simpa using h1),yG]
   refine⟨_,S, ?_,rfl,(st.trans (O.mono fun _ _ x=>x.elim)).trans (Z.mono fun _ _ x=> .inl x),i4,a4,i5, ?_,i7, ?_,db,fun kv H0=>hes kv (g8 kv H0)⟩
   .simp(maxSteps:=999999)(disch:=omega) only[XW,eZ,e8,i1,i2,b2,e0,f0,c5,f5,f2,e4,zCk,yH]
   .rw[b8,J4,if_pos h1];exact i6
   .rw[c6];exact b0.mono Z fun M a e=>by subst e;exact zRE b0 b9 (fun _ _ e=>by cases e) a
  .have c5: ¬c.at_=((1:Nat):Int):=h1;obtain⟨S,A7,b4,p4,g4,m4,n4⟩:=box O.ok (.cells (jS c) 42 3 false);have b3:=b0.mono p4 fun _ _ x=>x
   have g9:srcOf 3 (.slice A7 0 1 2) S=some (1,jS c):=by simp only[srcOf,g4];rfl
   have h0:=zEX E (h.take i);rw[qB]at h0;obtain⟨c7,H5,e5,b6,K,i8⟩:=b3.app (bytes:=24) (m:=1) (new:=jS c) p4.ok (by decide) g9 rfl rfl (by omega) (by decide);have M4:=p4.next;have M5:=K.next
   have i9: ¬Blk a4 n:=zRE b3 (zRB p4 O.ok a7) (fun _ _ e=>by simp at e);have j0: ¬Blk a4 B:=zRE b3 (zRB p4 O.ok b9) (fun _ _ e=>by cases e);have c8:H5.h.get n=some (.cells (wN l F q B D a4) 140 1 false):=by
    rw[K.keep _ (by omega) i9];exact zRB p4 O.ok a7
   obtain⟨H6,e6,g6,s6,n6⟩:=xM K.ok c8 (o:=7) (x:=c7) b6.isCell (by simp[wN]);have g6:H6.h.get n=some (.cells (wN l F q B D c7) 140 1 false):=g6;have j1:H6.h.get B=some (.map [10] a9):=by
    rw[s6.keep _ (by omega) (fun e=>b5 e.symm),K.keep _ (by omega) j0];exact zRB p4 O.ok b9
   have c6:(E.drop (h.take (i+1))).dl=(E.drop (h.take i)).dl++[c]:=by
    simp only[b8,Ev.drop,XR];rw[if_pos (by simpa using h1),qC]
   have e1:=bldQ 42 c [.int .i64 (0:Nat), .int .i64 (0:Nat), .int .u64 (0:Nat)] rfl;have j2:Stp (fun M=>M=B\/M=n\/Blk V M) H1 H6:=by
    refine Stp.thr (Stp.thr (st.trans ((O.trans p4).mono fun _ _ x=>x.elim)) K fun M e=> ?_) s6 fun M e=> .inr (.inr (.inl e))
    rcases db M e with x | x
    .exact .inr (.inr (.inr x))
    .exact .inl x
   refine⟨_,H6, ?_,rfl,j2,a9,c7,j1, ?_,g6, ?_,fun M a=> ?_,hes⟩
   .simp(maxSteps:=999999)(disch:=omega) only[XW,eZ,e8,i1,i2,b2,e0,f0,c5,f7,f3,e1,b4,e5,e6,zCk,yH]
   .rw[b8,J4,if_neg h1];refine e7.frame fun kv H0 nd y=> ?_
    have hk:=hes kv H0;have h5:kB H5 kv.2 nd:=(y.prs p4).stp K fun M a e=>by
     rcases db M e with x | x
     .exact j.ds kv hk M a (.inl x)
     .have:=d6 kv hk M a;omega
    exact h5.stp s6 fun M a e=>by
     subst e;exact h5.nblk c8 (.inl ⟨_,_,_,_,rfl,fun _ _ e=>by rw[hd]at e;cases e⟩) a
   .rw[c6,zV,yY];have e2:[c].flatMap jS=jS c:=by simp
    rw[e2];exact b6.mono s6 fun M a e=>by subst e;exact zRE b6 c8 (fun _ _ e=>by simp at e) a
   .rcases i8 M a with e | e
    .exact db M e
    .exact .inr (by omega)) At _ H1 ⟨rfl,zRx p1.ok,H,V,a8.gM,by simpa[cX]using a8.pq,a8.gT,by simpa[Ev.drop]using a8.dg,fun M a=> .inl a,fun _ root0=>root0⟩ y
 obtain⟨m,us,T,e2,rfl,st,b7,a5,hM,hp,e9,c9,d0,h6⟩:=lp;rw[j6]at hp c9;have N2:=st.next
 have f9:kI (m+1) (XW es At) [.ptr A 0, .ptr A3 0, .ptr n 0,f, .int .i64 (h.length:Nat), .int .i64 (h.length:Nat)] T=some (.exit 0 [.ptr A 0, .ptr A3 0, .ptr n 0],T):=jW (by simp only[XW,eZ,y7]);have f1:T.h.get A=some (.cells [.ptr n 0, .int .u64 (G:Nat), .map t,f] 242 1 false):=by rw[st.keep _ (by omega) (nS _ (by omega))];exact a6.gC
 have j3:T.h.get t=some (.map [10] s):=by rw[st.keep _ (by omega) (nS _ (by omega))];exact a6.gF
 have j4:T.h.get A3=some (.cells (jS root) 42 1 false):=by rw[st.keep _ (by omega) (nS _ (by omega))];exact g1
 have k0: ∀d:List AV,∀x:AV,∀b,wN l F q B D x≠ .str d.length b::d:=fun d x b e=>by
  rw[hd]at e;simp[wN]at e
 have f4:uP T s Q:=a6.pf.frame fun kv H0 nd y=>y.stp st fun M a e=>by
  rcases e with e | e | e
  .subst e;exact y.nblk a8.gM (.inr (.inl ⟨_,_,rfl⟩)) a
  .subst e;exact y.nblk a8.gT (.inl ⟨_,_,_,_,rfl,fun _ _ e=>by rw[hd]at e;cases e⟩) a
  .exact u.gx kv H0 M a (.inl e)
 have d4:=zKa st.ok j3 hM (by omega) f4;have g0: ∀x∈s,kZ x.1 b7=none:=fun x hx=>by
  obtain⟨N,hs,hm⟩:=a6.pf.keys x hx;rw[hs];refine(hp.find N).2 ?_
  cases hk:jX N (cX p h)with
  | none=>rfl
  | some d7=>
   have m1:=Y7 (vC hk);obtain⟨k8,h3⟩:=fP (q:=p) (s:=N) (qZ.2 ⟨_,m1,rfl⟩);obtain⟨k9,h4⟩:=fP hm;have:=hq _ _ h3;have:=u.fs _ _ h4;omega
 rw[zDW g0 (a6.pf.dist u.fd)]at d4;obtain⟨Y,f6⟩:=zKJ st.ok (st.ok.lt hM) (.map [10] (b7++s)) (1+1*s.length);have f8:T.next<=(AH.putB T B (.map [10] (b7++s)) (1+1*s.length)).next:=Y.next
 generalize AH.putB T B (.map [10] (b7++s)) (1+1*s.length)=J at d4 Y f6 f8;have j5:bT [.ptr A 0, .ptr A3 0, .ptr n 0] T=some J:=by
  have c1:ld1 (.ptr A (0+2)) T=some (.map t):=by rw[jM f1];rfl
  have c2:ld1 (.ptr n (0+5)) T=some (.map B):=by rw[jM e9];rfl
  have d1:Nat.blt t T.next=true:=by rw[qE];omega
  have d2:Nat.blt B T.next=true:=by rw[qE];omega
  have d3:Nat.blt n T.next=true:=by rw[qE];omega
  simp only[bT,c1,c2,d1,d2,d3,qN,zO,d4]
 have j7:J.h.get A=some (.cells [.ptr n 0, .int .u64 (G:Nat), .map t,f] 242 1 false):=by rw[Y.keep _ (by omega) (by omega)];exact f1
 have a7:J.h.get n=some (.cells (wN l F q B D a5) 140 1 false):=by rw[Y.keep _ (by omega) b5];exact e9
 have j8:J.h.get A3=some (.cells (jS root) 42 1 false):=by rw[Y.keep _ (by omega) (by omega)];exact j4
 obtain⟨S,e4,g4,Z,n4⟩:=xM Y.ok a7 (o:=6) (x:= .int .u64 (G:Nat)) rfl (by simp[wN]);have g4:S.h.get n=some (.cells (wN l F q B G a5) 140 1 false):=g4;have j9:S.h.get A3=some (.cells (jS root) 42 1 false):=by rw[Z.keep _ (by omega) (by omega)];exact j8
 have e5:=WK (o:=2) (n:=3) (x:= .agg (jS root)) g4 (by decide) rfl rfl (by simp[wN]);have g5:(S.put n (.cells ((wN l F q B G a5).take 2++jU (.agg (jS root))++(wN l F q B G a5).drop (2+3)) 140 1 false)).h.get n=some (.cells (wN l F root B G a5) 140 1 false):=by rw[zRt,if_pos rfl];rfl
 have K:Stp (fun M=>M=n) S (S.put n (.cells ((wN l F q B G a5).take 2++jU (.agg (jS root))++(wN l F q B G a5).drop (2+3)) 140 1 false)):=(zRx Z.ok).put (Z.ok.lt g4) _ (.inr rfl);generalize S.put n (.cells ((wN l F q B G a5).take 2++jU (.agg (jS root))++(wN l F q B G a5).drop (2+3)) 140 1 false)=H5 at e5 g5 K;have N3:=Y.next;have N4:=Z.next;have N5:=K.next
 have fr: ∀ {v:AV} {nd:Nd.Node},kB T v nd->kB H5 v nd:=fun {v nd} y=>by
  have h3:kB J v nd:=y.stp Y fun M a e=>by subst e;exact y.nblk hM (.inr (.inl ⟨_,_,rfl⟩)) a
  have h4:kB S v nd:=h3.stp Z fun M a e=>by subst e;exact h3.nblk a7 (.inl ⟨_,_,_,_,rfl,fun _ _ e=>by rw[hd]at e;cases e⟩) a
  exact h4.stp K fun M a e=>by subst e;exact h4.nblk g4 (.inl ⟨_,_,_,_,rfl,fun _ _ e=>by rw[hd]at e;cases e⟩) a
 have b0:=c9.mono Y fun M a e=>by subst e;exact zRE c9 hM (fun _ _ e=>by cases e) a
 have b3:=b0.mono Z fun M a e=>by subst e;exact zRE b0 a7 (fun _ _ e=>by simp at e) a
 have b6:=b3.mono K fun M a e=>by subst e;exact zRE b3 g4 (fun _ _ e=>by simp at e) a
 have T5:Stp (fun M=>M=n\/M=B\/Blk V M) k H5:=⟨K.ok,by omega,fun M a hS=>by
  have a1: ¬M=n:=fun e=>hS (.inl e)
  have a2: ¬M=B:=fun e=>hS (.inr (.inl e))
  rw[K.keep M (by omega) a1,Z.keep M (by omega) a1,Y.keep M (by omega) a2,st.keep M (by omega) (fun x=>by
   rcases x with x | x | x
   .exact a2 x
   .exact a1 x
   .exact hS (.inr (.inr x))),p1.keep M (by omega) (fun x=>x),u.prs.keep M a (fun x=>x)]⟩
 refine⟨H5,b7++s,a5, ?_,⟨K.ok,g5, ?_, ?_, ?_,j.cn,b6,fun kv H0 M a hb=> ?_, ?_,fun M a=>qG (j.xl M a) T5.next⟩,T5,fun M a=> ?_⟩
 .have h7:Nat.ble T.next J.next=true:=by rw[qV];exact f8
  have c0:ld1 (.ptr A 0) H1=some (.ptr n 0):=by rw[jM a6.gC];rfl
  have c3:ld1 (.ptr A 3) H1=some f:=by rw[jM a6.gC];rfl
  have c1:ld1 (.ptr A 1) J=some (.int .u64 (G:Nat)):=by rw[jM j7];rfl
  have r3:ldN 3 (.ptr A3 0) S=some (.agg (jS root)):=by rw[jR j9];rfl
  simp(maxSteps:=999999)(disch:=omega) only[f126,eZ,b1,c0,c3,a6.gg.row.lnSl,e2,f9,zMT,j5,tld,h7,zO,c1,e4,r3,e5]
 .rw[K.keep _ (by omega) (fun e=>b5 e.symm),Z.keep _ (by omega) (fun e=>b5 e.symm)];exact f6
 .exact uP.append (f4.frame fun kv _ nd y=>fr y) (hp.frame fun kv _ nd y=>fr y)
 .exact j.dks T5 fun M a=>by
   rcases a with e | e | e
   .exact .inl e
   .exact .inr (.inl e)
   .exact .inr (.inr (.inl e))
 .rcases zZ.1 H0 with H0 | H0
  .have hk:=h6 kv H0;rcases hb with hb | hb
   .rcases d0 M hb with e | e
    .exact j.ds kv hk M a (.inl e)
    .have:=d6 kv hk M a;omega
   .exact j.ds kv hk M a (.inr hb)
  .rcases hb.imp (d0 M) id with(e | e) | e
   .exact u.gx kv H0 M a (.inl e)
   .obtain⟨d7,c4⟩:=u.pf.mem kv H0;have:=c4.lt a;omega
   .exact u.gx kv H0 M a (.inr e)
 .have h1:=Y8 h p;have h2:=u.fl;simp only[zV];omega
 .rcases d0 M a with e | e
  .exact .inl e
  .exact .inr (by omega)
end Go.Eng.Sh
end
section
namespace Go.Bt
open Go.Nd (Str Kvs Ptr leafOf)
theorem WF.wr: ∀ {h:Nat} {t:Tr h},WF h none none t->WR h t
 | 0,_,w=>w
 | _+1,_,w=>⟨w.1,w.2.1,w.2.2.2⟩
theorem WX.wr: ∀ {h:Nat} {t:Tr h},WX h none none t->(match h,t with | 0,l=>(l:Kvs)≠[] | _+1,t=>t.1≠[])->wK h t<=500->WR h t
 | 0,_,w,hne,hz=>⟨w.1,hne,hz⟩
 | _+1,_,w,hne,hz=>⟨w.1,hne,hz⟩
end Go.Bt
namespace Go.Eng.Sh
open Go.Nd (Ptr sumL leafOf Kvs)
open Go.Bt
variable {E:Ev}{X:Nat->Prop}
def pZ:Ptr:=⟨((0:Nat):Int),((0:Nat):Int),((0:Nat):Int)⟩
def dsk (T:List Ptr):List Ptr:=T.filter fun p=>decide (p.at_≠1)
theorem zDD (a b:List Ptr):dsk (a++b)=dsk a++dsk b:=jH ..
theorem zQW (T: ∀p∈h,∃j,p=pp j):dsk h=[]:=List.filter_eq_nil_iff.2 fun p hp=>by
 obtain⟨j,rfl⟩:=T p hp;simp[pp]
theorem zEW (E:Ev){Fr R:List Ptr}(T:h.Perm (u++R))(q:L.Perm (Fr++R))(t: ∀p∈Fr,∃j,p=pp j):(dsk L++(E.drop u).dl).Perm (dsk h++E.dl):=by
 have o:(dsk h).Perm (dsk (u++R)):=T.filter _;have f:(dsk L).Perm (dsk (Fr++R)):=q.filter _;rw[zDD]at o f;rw[zQW t,qW]at f;have m:(E.drop u).dl=E.dl++dsk u:=rfl;rw[m];rw[List.perm_iff_count]at o f⊢;intro a;have x:=o a;have y:=f a;simp only[List.count_append]at x y⊢;omega
def vF (E:Ev)(q:PN)(root:Ptr)(kv:Kvs)(T:List Ptr):Prop:=(root=pZ/\kv=[]/\T=[])\/ ∃h nd,∃t:Bt.Tr h,∃S:List Ptr,Qf E q [] root=some nd/\kT (Qf E q []) h nd t S/\WR h t/\(root::S).Nodup/\con h t=kv/\T=root::S
theorem xU.here {α:Type}{Q:Ptr->Option Nd.Node}{R:Nd.Node->α->List Ptr->Prop}(hr: ∀nd t S,R nd t S-> ∀p∈S,∃nd,Q p=some nd): ∀ {ps:List Ptr} {ts:List α} {S:List Ptr},xU Q R ps ts S-> ∀p∈S,∃nd,Q p=some nd
 | [],[],_,h=>by subst h;simp
 | p::ps,t::ts,_,⟨nd,S1,S2,a,b,c,e⟩=>fun x f=>by
  subst e;rcases zK.1 f with rfl | f
  .exact⟨nd,a⟩
  .rcases zZ.1 f with f | f
   .exact hr _ _ _ b x f
   .exact xU.here hr c x f
 | [],_::_,_,h=>h.elim
 | _::_,[],_,h=>h.elim
theorem kT.here {Q:Ptr->Option Nd.Node} : ∀ {h:Nat} {nd:Nd.Node} {t:Bt.Tr h} {S:List Ptr},kT Q h nd t S-> ∀p∈S,∃nd,Q p=some nd
 | 0,_,_,_,w=>by obtain⟨_,rfl⟩:=w;simp
 | h+1,_,_,_,w=>xU.here (fun _ _ _ hr=>kT.here hr) w.2.2.2
theorem zNN {R:List Ptr}(t: ∀s nd,jX s p=some nd->s<=n)(S: ∀s nd,jX s Q=some nd->n<s)(y:L.Perm (u++R))(Y:(h++R).Nodup)(J: ∀q∈h,∃nd,Qf E p [] q=some nd)(gl: ∀q∈u,∃j,q=pp j/\n<j)(K:u.Nodup)(hR: ∀q∈R,∃nd,Qf E p [] q=some nd):
  L.Nodup/\ ∀q∈L,∀nd,Qf E p Q q=some nd->Qf E (cX p h++Q) [] q=some nd:=by
 have z: ∀s,pp s∈R->s<=n:=fun s hp=>by
  obtain⟨nd,f⟩:=hR _ hp;obtain⟨s',e,m | ⟨_,m⟩⟩ | ⟨m,_⟩:=uO f
  .simp[jX]at m
  .have:=JI e;subst this;exact t _ _ m
  .exact absurd rfl (m s)
 obtain⟨_,N,C⟩:=List.nodup_append.1 Y;refine⟨y.nodup_iff.2 (List.nodup_append.2 ⟨K,N,fun a Z b hb e=> ?_⟩),fun q hp nd f=> ?_⟩
 .obtain⟨j,rfl,hj⟩:=gl a Z;subst e;have:=z j hb;omega
 .obtain⟨s,rfl,m | ⟨h0,m⟩⟩ | ⟨m,h2⟩:=uO f
  .rw[zAW];simp only[jX];have hs:=S _ _ m;rw[vD]
   cases hk:jX s (cX p h)with
   | none=>exact m
   | some n2=>
    obtain⟨n3,h3⟩:=fP (qZ.2 ⟨_,Y7 (vC hk),rfl⟩);have:=t _ _ h3;simp only at this;omega
  .rw[zAW];simp only[jX];have hs:=t _ _ m;have O:pp s∈R:=by
    rcases zZ.1 (y.mem_iff.1 hp)with e | e
    .obtain⟨j,e,hj⟩:=gl _ e;have:=JI e;omega
    .exact e
   rw[vD,BL fun p' x e1 e=> ?_,m];obtain⟨a0,hn⟩:=J p' x;obtain⟨s',rfl,_⟩ | ⟨_,hd⟩:=uO hn
   .have:s=s':=by simpa[pp]using e
    subst this;exact C _ x _ O rfl
   .have:=(bX hd).2;omega
  .rw[JE m];exact h2
theorem zEu (o: ∀s nd,jX s p=some nd->s<=n)(q: ∀s nd,jX s Q=some nd->n<s/\s<=A)(hl:n<=A): ∀s nd,jX s (cX p h++Q)=some nd->s<=A:=fun s nd f=>by
 rw[vD]at f
 cases m:jX s (cX p h)with
 | none=>rw[m]at f;exact(q _ _ f).2
 | some n2=>
  obtain⟨u,t⟩:=fP (qZ.2 ⟨_,Y7 (vC m),rfl⟩);have:=o _ _ t;simp only at this;omega
theorem xU.perm_one {α:Type}{R:Nd.Node->α->List Ptr->Prop}{t:α}(Q:xU r R h [t] L): ∃p nd f,h=[p]/\r p=some nd/\R nd t f/\L=p::f:=by
 match h,Q with
 | [p],⟨nd,f,S2,a,b,c,e⟩=>exact⟨p,nd,f,rfl,a,b,by simp only[xU]at c;rw[e,c,yG]⟩
 | _::_::_,⟨_,_,_,_,_,c,_⟩=>exact c.elim
 | [],Q=>exact Q.elim
theorem CutsN.one_inv {f:List Str}(h:CutsN w a f)(j:Nd.size w<=500):a=[w]/\f=[]:=by
 cases h with
 | one _=>exact⟨rfl,rfl⟩
 | more h1=>omega
theorem CutsN.more_inv {nd:List Str}(h:CutsN w a nd)(j:500<Nd.size w):nd≠[]:=by
 cases h with
 | one h1=>omega
 | more h1=>simp
end Go.Eng.Sh
end
section
namespace Go.Eng.Sh
open Go.Nd (Ptr sumL leafOf Kvs)
open Go.Bt
variable {E:Ev}
def zM8 (E:Ev)(H0 H':AH)(At M:Nat)(d c h:AV)(low m:Nat)(kv:Kvs)(T:List Ptr):Prop:= ∃gl root es q a f j,TI (E.drop gl) H' At M d c root es q a f/\Stp (fun B=>B=At\/B=M\/Blk h B) H0 H'/\(∀B,Blk f B->Blk h B\/H0.next<=B)/\(∀s nd,jX s q=some nd->s<=a)/\q.length<=a/\low<=a/\a<=m/\vF E q root kv j/\(dsk j++(E.drop gl).dl).Perm (dsk T++E.dl)/\gl.length<=100
theorem zM8.mono (At:zM8 E k C n A l F V t D I h)(hl:B<=t)(O:D<=G):zM8 E k C n A l F V B G I h:=by
 obtain⟨gl,root,es,q,o,p,u,x,y,z,H0,J,S,Y,K,N,H'⟩:=At;exact⟨gl,root,es,q,o,p,u,x,y,z,H0,J,by omega,by omega,K,N,H'⟩
theorem zNc (h:Qf E p Q q=some w):0<=q.sum:=by
 obtain⟨s,rfl,_⟩ | ⟨_,j⟩:=uO h
 .simp[pp]
 .obtain⟨a,birth,kind,body,rfl,_⟩:=zRw.1 j;simp[fJ]
theorem zJa (o:Dyn)(At:Nat)(S:TI E k n B l F q H p D V)(u: ∀d nd,jX d p=some nd->d<=D)
  (m:Ch (XE E V) k C n A t s Q f h D G) (y: ∀M∈h,∃nd,Qf E p [] M=some nd) (hl:G<=900000000) (Y:h.length<At) (z:p.length<=D) (H0:E.dl.length+h.length<=900000000) (J:L.Perm h) (K:h.length<=100):
  ∃H',f126 o At [.ptr A 0, .agg [.int .i64 (0:Nat), .int .i64 (0:Nat), .int .u64 (0:Nat)]] C=some (.tuple [],H')/\zM8 E k H' n B l F V G G [] L:=by
 obtain⟨H',es',N,e,O,st,Z⟩:=zJb o At (root:=pZ) S u m (fun M hp=>(y M hp).elim fun nd c=>zNc c) hl Y z H0;refine⟨H',e,h,_,_,_,G,N,[],O,st,Z,zEu u m.fs m.le, ?_,zP _,zP _, .inl ⟨rfl,rfl,rfl⟩,zEW E (R:=[]) (Fr:=[]) (by simpa using J) (by simp) (by simp),K⟩;have h1:=Y8 h p;have h2:=m.fl;simp only[zV];omega
theorem Y6 (At:Dyn)(H0:Nat){h:Nat}{rp:Ptr}{Fr R T:List Ptr}{t:Bt.Tr h}{S:List Ptr}(ti:TI E k n D l F q H p G V)(x: ∀c w,jX c p=some w->c<=G)
  (o:Ch (XE E V) k C n A B s Q f L G M) (y: ∀d∈L,∃w,Qf E p [] d=some w) (hl:M<=900000000) (hn:L.length<H0) (N:p.length<=G) (O:E.dl.length+L.length<=900000000)
  (hs:Qf E p Q rp=some w) (rn:kT (Qf E p Q) h w t S) (wr:WR h t) (J:(rp::S).Perm (Fr++R)) (hG:(L++R).Nodup) (z: ∀d∈Fr,∃j,d=pp j/\G<j) (Y:Fr.Nodup) (hR: ∀d∈R,∃w,Qf E p [] d=some w) (Z:T.Perm (L++R)) (a0:L.length<=100):
  ∃H',f126 At H0 [.ptr A 0, .agg (jS rp)] C=some (.tuple [],H')/\zM8 E k H' n D l F V M M (con h t) T:=by
 obtain⟨H',es',a1,e,a2,st,db⟩:=zJb At H0 (root:=rp) ti x o (fun d hp=>(y d hp).elim fun w h=>zNc h) hl hn N O;obtain⟨a3,mono⟩:=zNN x (fun c w h=>(o.fs c w h).1) J hG y z Y hR;refine⟨H',e,L,_,_,_,M,a1,_,a2,st,db,zEu x o.fs o.le, ?_,zP _,zP _, .inr ⟨h,w,t,S,mono rp (zJ ..) w hs,rn.mono (fun d hp w hh=>mono d (zC _ hp) w hh),wr,a3,rfl,rfl⟩,zEW E Z J fun d hp=>(z d hp).elim fun j h=>⟨j,h.1⟩,a0⟩;have h1:=Y8 L p;have h2:=o.fl;simp only[zV];omega
theorem zLt (c:Dyn)(Ac:Nat)(hn:200000000<=Ac){g:AV}{T:List Ptr}{t:Bt.Tr G}{S:List Ptr}(ti:TI E k n D l F q H p M V)(hq: ∀es w,jX es p=some w->es<=M)
  (y:Ch (XE E V) k C n A B s Q g h M N) (b0: ∀root0∈h,∃w,Qf E p [] root0=some w) (hl:N<=700000000) (b2:h.length<Ac) (b3:p.length<=M) (hu:xS (XE E V) C g f w)
  (J:kT (Qf E p Q) G w t S) (wx:WX G none none t) (hS:S.Perm (L++u)) (hG:(h++u).Nodup) (b4: ∀root0∈L,∃j,root0=pp j/\M<j/\j<=N) (c0:L.Nodup) (hR: ∀root0∈u,∃w,Qf E p [] root0=some w) (b5:E.dl.length+h.length<=900000000) (a5:T.Perm (h++u)) (b6:h.length<=100):
  ∃H',f131 c Ac [.ptr A 0,f] C=some (.int .i64 (0:Nat),H')/\zM8 E k H' n D l F V N (N+7) (con G t) T:=by
 obtain⟨ks,d4,ps,rfl,j1,j2,j3⟩:=id hu.1;obtain⟨H1,A3,b1,p1,g1,m1,n1⟩:=box y.prs.ok (.cells [.bool w.leaf,ks,d4,ps] 119 1 false);have Z:=y.step p1;have f5:=hu.prs p1;have b7: ∀root0∈L,∃j,root0=pp j/\M<j:=fun root0 hp=>by obtain⟨j,a,b,_⟩:=b4 root0 hp;exact⟨j,a,b⟩
 have e0:ld1 (.ptr A3 0) H1=some (.bool w.leaf):=by rw[jM g1];rfl
 have e1:ld1 (.ptr A3 1) H1=some ks:=by rw[jM g1];rfl
 have e3:ld1 (.ptr A3 3) H1=some ps:=by rw[jM g1];rfl
 by_cases At:w.keys=[]
 ·
  have a6:(w.keys.length:Int)=((0:Nat):Int):=by rw[At];rfl
  cases G with
  | zero=>
   obtain⟨d5,rfl⟩:=J;have f6:u=[]:=by
    have:=hS.length_eq;simp only[yF,zV]at this;exact zW (by omega)
   rw[f6,yG]at a5;have ht:t=([]:Kvs):=List.map_eq_nil_iff.1 (show List.map Prod.fst (t:Kvs)=[]from(show(leafOf t).keys=[]from d5▸At));subst ht;obtain⟨H2,e2,O⟩:=zJa c Ac ti hq Z b0 (by omega) b2 b3 b5 a5 b6;refine⟨H2, ?_,O.mono (zP _) (by omega)⟩;have c3:ld1 (.ptr A3 0) H1=some (.bool true):=by rw[e0,d5];rfl
   have bs:uB [(0,1),(1,1),(2,1)] [.int .i64 (0:Nat), .int .i64 (0:Nat), .int .u64 (0:Nat)] []=some (.agg [.int .i64 (0:Nat), .int .i64 (0:Nat), .int .u64 (0:Nat)]):=rfl;simp(maxSteps:=999999)(disch:=omega) only[f131,eZ,b1,e1,j1.row.lnSl,a6,c3,bs,e2,zER]
  | succ G=>
   obtain⟨r1,r2,r3,r4⟩:=id J;obtain⟨w1,w2⟩:=id wx;rw[At]at r2;have a8:=w1.2.2.len;rw[<-r2]at a8;obtain⟨t1,c4⟩: ∃t1,t.2=[t1]:=by
    match ht:t.2,a8 with
    | [a],_=>exact⟨a,rfl⟩
   have d6:=w1.2.2;rw[<-r2,c4]at d6;rw[c4]at r4;obtain⟨k0,h7,S1,c5,q1,f7,f8⟩:=xU.perm_one r4;subst f8;obtain⟨H2,e2,O⟩:=Y6 c Ac ti hq Z b0 (by omega) b2 b3 b5 q1 f7 (WF.wr d6) hS hG b7 c0 hR a5 b6;have c3:ld1 (.ptr A3 0) H1=some (.bool false):=by rw[e0,r1]
   have b8:con (G+1) t=con G t1:=by simp only[con,c4,qI,List.flatMap_nil,yG]
   rw[b8];refine⟨H2, ?_,O.mono (zP _) (by omega)⟩;obtain⟨qk,ik,a7⟩:=gZ.at (l:=w.kids) (j3.mono p1 (fun _ _ x=>x)).row (i:=0) (by rw[c5];simp);have c6:w.kids[0]'(by rw[c5];simp)=k0:=by simp[c5]
   rw[c6]at a7;simp(maxSteps:=999999)(disch:=omega) only[f131,eZ,b1,e1,j1.row.lnSl,a6,c3,e3,ik,a7,e2,zER]
 ·
  have a6: ¬(w.keys.length:Int)=((0:Nat):Int):=by
   have:w.keys.length≠0:=fun e=>At (zW e)
   omega
  have f9:=J.shaped wx.gen (fun _=>At) (kT.kidOk J);have hz:Nd.size w<=785:=by rw[J.size];exact wx.sz
  obtain⟨pv,sv,H2,vs,o,z,e2,p2,a9,oP,e9,oS,bP,bS,g0⟩:=zCr c Ac hn p1.ok f5.1 f9 (by omega);obtain⟨ts,c1,c2⟩:=zAL a9 J wx;have h8:o.length<=6:=by
   by_cases hb:Nd.size w<=500
   .rw[(a9.one_inv hb).1];simp
   .have:=(zAK c1 wx (.inr (by rw[<-J.size];omega))).2.2.1;rw[c2.len];exact this
  have g2:=Z.step p2;obtain⟨kv,H3,d7,c7,a3,o3,f3⟩:=zCQ c Ac hn g2 oP e9 (fun dr hl d hB=>by
   rcases g0 dr hl d hB with e | e
   .exact hu.2 d e
   .exact⟨fun c8=>by have:=zRH Z.gg.row c8;omega,fun hx=>by have:=Z.xo d hx;have:=Z.prs.next;omega⟩) (by omega) (by omega)
  have N1:=p1.next;have N2:=p2.next;have N3:=a3.1.next
  have e8: ∀j,jX (N+1+j) Q=none:=fun j=>by
   cases At:jX (N+1+j) Q with
   | none=>rfl
   | some n2=>have:=y.fs _ _ At;omega
  have f1: ∀es K,jX es (vE N o)=some K->M<es:=fun es K hs=>by have:=VH hs;have:=y.le;omega
  have more: ∀root0 w,Qf E p Q root0=some w->Qf E p (Q++vE N o) root0=some w:=fun root0 w hp=>zAX hq f1 hp
  have d8: ∀j K,o[j]? =some K->Qf E p (Q++vE N o) (pp (N+1+j))=some K:=fun j K hj=>by rw[zAW,vD,e8];simp only[YZ hj]
  have c9:gZ H3 kv (pps N o.length):=by
   have:=o3.row;rw[gZ,YQ];exact this
  have d0:=c9.lnSl;rw[YQ]at d0;have d9: ¬(((0:Nat):Int)≠((0:Nat):Int)):=by omega
  by_cases hb:Nd.size w<=500
  .obtain⟨rfl,rfl⟩:=a9.one_inv hb;have b9:(([w].length:Nat):Int)=((1:Nat):Int):=rfl;have wr:WR G t:=wx.wr (by
    cases G with
    | zero=>obtain⟨rfl,_⟩:=J;intro e;exact At (by rw[show t=([]:Kvs)from e];rfl)
    | succ G=>exact(show t.1≠[]from J.2.1▸At)) (by rw[<-J.size];exact hb)
   have d1: ∀root0∈pp (N+1)::L,∃j,root0=pp j/\M<j:=fun root0 hp=>by
    rcases zK.1 hp with rfl | hp
    .exact⟨_,rfl,by have:=y.le;omega⟩
    .exact b7 root0 hp
   have d2:(pp (N+1)::L).Nodup:=List.nodup_cons.2 ⟨fun hp=>by
    obtain⟨j,e,_,hj⟩:=b4 _ hp;have:=JI e;omega,c0⟩
   obtain⟨H4,e4,O⟩:=Y6 c Ac (rp:=pp (N+1)) (t:=t) (S:=S) ti hq c7 b0 (by simp;omega) b2 b3 b5 (d8 0 w rfl) (J.mono fun root0 _ w hp=>more root0 w hp) wr (List.Perm.cons _ hS) hG d1 d2 hR a5 b6;refine⟨H4, ?_,O.mono (by simp) (by simp)⟩;obtain⟨qk,ik,a7⟩:=gZ.at c9 (i:=0) (by simp[pps]);have c6:(pps N [w].length)[0]'(by simp[pps])=pp (N+1):=by simp[pps]
   rw[c6]at a7;simp(maxSteps:=999999)(disch:=omega) only[f131,eZ,b1,e1,j1.row.lnSl,a6,gP g1 rfl,e2,jN,nth,d9,d7,d0,b9,ik,a7,e4,zIQ]
  .have e6:=a9.more_inv (by omega);obtain⟨w1,w2,w3,_⟩:=zAK c1 wx (.inr (by rw[<-J.size];omega));have a8:=w1.2.2.len;simp only at a8;have h5:z.length≠0:=fun e=>e6 (zW e)
   have h9:=c2.len;have b9: ¬(o.length:Int)=((1:Nat):Int):=by omega
   have g3:zFt (Qf E p (Q++vE N o)) G o ts S:=by
    have mono: ∀ {a0:List Nd.Node} {Y:List (Bt.Tr G)} {S':List Ptr},zFt (Qf E p Q) G a0 Y S'->zFt (Qf E p (Q++vE N o)) G a0 Y S':=by
     intro a0
     induction a0 with
     | nil=>intro Y S' hp;cases Y with
      | nil=>exact hp
      | cons=>exact hp.elim
     | cons a a0 ih=>intro Y S' hp;cases Y with
      | nil=>exact hp.elim
      | cons b Y=>
       obtain⟨S1,S2,a1,a2,a3⟩:=hp;exact⟨S1,S2,a1.mono fun root0 _ w hp=>more root0 w hp,ih a2,a3⟩
    exact mono c2
   obtain⟨S2,r2,g4⟩:=g3.kids N d8;have i0:H3.h.get A3=some (.cells [.bool w.leaf,ks,d4,ps] 119 1 false):=by
    rw[a3.1.keep _ (by omega) (fun hc=>by
     rcases hc with e | e | e
     .have:=y.ltC;omega
     .have:=y.ltF;omega
     .have:=zRH y.gg.row e;omega)]
    exact zRB p2 p1.ok g1
   have e7:Own 1 9 H3 sv z.length (z.map Go.Eng.S):=oS.mono a3.1 (fun d hB hc=>by
    have:=bS d hB;rcases hc with e | e | e
    .have:=y.ltC;omega
    .have:=y.ltF;omega
    .have:=zRH y.gg.row e;omega)
   have g5:kB H3 (.agg [.bool false,sv, .nS,kv]) ⟨false,z,[],pps N o.length⟩:=⟨sv, .nS,kv,rfl, .inl e7, .inl (zRF ..), .inl (by
    simp only[YQ];exact o3)⟩
   have g6:xS (XE E V) H3 g (.agg [.bool false,sv, .nS,kv]) ⟨false,z,[],pps N o.length⟩:=⟨g5,fun d hB=>by
    have i1:C.next<=d:=by
     rcases wO.1 hB with e | e | e
     .have:=bS d e;omega
     .exact(zRC.1 e).elim
     .have:=f3 d e;omega
    exact⟨fun c8=>by have:=zRH y.gg.row c8;omega,fun hx=>by have:=y.xo d hx;have:=y.prs.next;omega⟩⟩
   obtain⟨H4,e4,g7,a4⟩:=zJN c Ac c7 g6 (by omega);have f2:jX (N+o.length+1) (Q++vE N o)=none:=by
    cases At:jX (N+o.length+1) (Q++vE N o)with
    | none=>rfl
    | some n2=>have:=c7.fs _ _ At;omega
   have d3: ∀root0 K,Qf E p (Q++vE N o) root0=some K->Qf E p (Q++vE N o++[(N+o.length+1,⟨false,z,[],pps N o.length⟩)]) root0=some K:=fun root0 K hp=>zAX hq (fun es w hs=>by
    simp only[jX]at hs;split at hs
    .have:=y.le;omega
    .cases hs) hp
   have g8:Qf E p (Q++vE N o++[(N+o.length+1,⟨false,z,[],pps N o.length⟩)]) (pp (N+o.length+1))=some ⟨false,z,[],pps N o.length⟩:=by
    rw[zAW,vD,f2];simp[jX]
   have g9:kT (Qf E p (Q++vE N o++[(N+o.length+1,⟨false,z,[],pps N o.length⟩)])) (G+1) ⟨false,z,[],pps N o.length⟩ (z,ts) S2:=⟨rfl,rfl,rfl,r2.mono (fun root0 _ w hp=>d3 root0 w hp) (fun w t S1 _ hr=>hr.mono fun root0 _ w hp=>d3 root0 w hp)⟩;have h6:=YM (ks:=z) (fun H0 At=>(w1.1 H0 At).1);have h0:WR (G+1) (z,ts):=⟨w1,e6,by simp only[wS];omega⟩;have d1: ∀root0∈pp (N+o.length+1)::(pps N o.length++L),∃j,root0=pp j/\M<j:=fun root0 hp=>by
    have:=y.le;rcases zK.1 hp with rfl | hp
    .exact⟨_,rfl,by omega⟩
    .rcases zZ.1 hp with hp | hp
     .obtain⟨j,rfl,h1,h2⟩:=ZN hp;exact⟨_,rfl,by omega⟩
     .exact b7 root0 hp
   have d2:(pp (N+o.length+1)::(pps N o.length++L)).Nodup:=by
    refine List.nodup_cons.2 ⟨fun hp=> ?_,List.nodup_append.2 ⟨WY _ _,c0,fun a ha b hb e=> ?_⟩⟩
    .rcases zZ.1 hp with hp | hp
     .obtain⟨j,e,h1,h2⟩:=ZN hp;have:=JI e;omega
     .obtain⟨j,e,h1,h2⟩:=b4 _ hp;have:=JI e;omega
    .obtain⟨j,rfl,h1,h2⟩:=ZN ha;obtain⟨j',rfl,h3,h4⟩:=b4 _ hb;have:=JI e;omega
   have hT:(pp (N+o.length+1)::S2).Perm ((pp (N+o.length+1)::(pps N o.length++L))++u):=by
    rw[qF,qC];exact List.Perm.cons _ (g4.trans (List.Perm.append_left _ hS))
   obtain⟨H5,e5,O⟩:=Y6 c Ac (rp:=pp (N+o.length+1)) ti hq g7 b0 (by omega) b2 b3 b5 g8 g9 h0 hT hG d1 d2 hR a5 b6;have b8:con (G+1) (z,ts)=con G t:=w2;rw[b8]at O;refine⟨H5, ?_,O.mono (by omega) (by omega)⟩;simp(maxSteps:=999999)(disch:=omega) only[f131,eZ,b1,e1,j1.row.lnSl,a6,gP g1 rfl,e2,jN,nth,d9,d7,d0,b9,zP0 e7.row.isCell c9.isCell,e4,e5,zIQ]
end Go.Eng.Sh
end
section
namespace Go.Bt
open Go.Nd (Str Kvs leafOf)
theorem WR.gen: ∀ {h:Nat} {t:Tr h},WR h t->Gen h none none t
 | 0,_,w=>w.1
 | _+1,_,w=>w.1
theorem WR.sz: ∀ {h:Nat} {t:Tr h},WR h t->wK h t<=500
 | 0,_,w=>w.2.2
 | _+1,_,w=>w.2.2
theorem zEJ {h:Nat} : ∀ {ts:List (Tr h)},(∀t∈ts,2 ^ h<=(con h t).length)->ts.length*2 ^ h<=(ts.flatMap (con h)).length
 | [],_=>by simp
 | t::ts,ih=>by
  have f:=ih t (zJ ..);have j:=zEJ (ts:=ts) fun t a=>ih t (zC _ a)
  simp only[zR,qI,zV,j9,Nat.one_mul];omega
theorem zIl {lo hi:Bd}{t:List Str×List (Tr n)}(f: ∀ {lo hi:Bd} {t:Tr n},WF n lo hi t->2 ^ n<=(con n t).length)(w:Inn (WF n) lo hi t)(a:t.1≠[]):2 ^ (n+1)<=(t.2.flatMap (con n)).length:=by
 have hl:=w.2.2.len;have m:t.1.length≠0:=fun e=>a (zW e)
 have o:=zEJ (ts:=t.2) fun x j=>by
  obtain⟨i,hi,rfl⟩:=jL j;exact f (KB.at w.2.2 (zQ hi))
 have p:2*2 ^ n<=t.2.length*2 ^ n:=yN _ (by omega);rw[Nat.pow_succ];omega
theorem WF.many: ∀ {h:Nat} {lo hi:Bd} {t:Tr h},WF h lo hi t->2 ^ h<=(con h t).length
 | 0,_,_,t,w=>by
  have:List.length (t:Kvs)≠0:=fun e=>w.2.1 (zW e)
  show 1<=List.length (t:Kvs);omega
 | _+1,_,_,_,w=>zIl WF.many w.1 w.2.1
theorem WR.many: ∀ {h:Nat} {t:Tr h},WR h t->2 ^ h<=(con h t).length
 | 0,t,w=>by
  have:List.length (t:Kvs)≠0:=fun e=>w.2.1 (zW e)
  show 1<=List.length (t:Kvs);omega
 | _+1,_,w=>zIl WF.many w.1 w.2.1
theorem WR.low {t:Tr n}(w:WR n t)(f:(con n t).length<=1000000000):n<=29:=by
 have:=w.many;rcases Nat.lt_or_ge n 30 with a | a
 .omega
 .have j:2 ^ 30<=2 ^ n:=Nat.pow_le_pow_right (by decide) a;have m:(2:Nat) ^ 30=1073741824:=by decide
  omega
end Go.Bt
namespace Go.Eng.Sh
open Go.Nd (Ptr sumL leafOf Kvs)
open Go.Bt
variable {E:Ev}
theorem cbx:(∀A o,jU (.ptr A o)=[.ptr A o])/\jU .nP=[.nP]/\jU .nilFunc=[.nilFunc]/\(∀k z,jU (.int k z)=[.int k z])/\(∀l,jU (S l)=[S l])/\(∀ed K V,jU (edF ed K V)=[edF ed K V])/\(∀A o,aveq (.ptr A o) (.ptr A o)=true):=
 ⟨fun _ _=>rfl,rfl,rfl,fun _ _=>rfl,fun _=>rfl,fun ed _ _=>by cases ed<;>rfl,fun _ _=>by simp[aveq]⟩
theorem zOX (s:Prs k C)(j:C.h.get A=some (.cells [.ptr n 0, .int .u64 (B:Nat), .map t, .nS] 242 1 false))(m:C.h.get t=some (.map [10] []))(o:k.next<=A)(p:k.next<=t)(ne:A≠t)(hX: ∀H,i H->H<k.next):
  Ch i k C n A t [] [] .nS [] B B:=
 ⟨s,j,m,trivial,zRF ..,fun H q=>(zRC.1 q).elim,fun _ h=>by simp at h,o,p,ne,fun _ _ h=>by simp[jX]at h,zP _,by simp,by simp,by simp,fun _ h=>by simp at h,hX⟩
theorem zCv (M M0:Nat)(hM:300000000<=M)(hn:300000000<=M0){V:Nat}{T:List Ptr}{ed:Ed}(c:TI E k n A l F q H p D f)(hq: ∀s nd,jX s p=some nd->s<=D)(d9:p.length<=D)(hl:D<=500000000)
  (hr:vF E p q I T) (o1:E.dl.length<=800000000) (c5:I.length<=1000000000) (ho:ed.ok) (hb:edB k ed B V):
  ∃(e:Nat) (H':AH),f82 (dy (M+2)) M0 [.ptr n 0,S ed.key,edF ed B V] k=some (.int .i64 (e:Nat),H')/\
   match ed.run I with
   | none=>e=5/\Prs k H'
   | some kv'=>e=0/\zM8 E k H' n A l F f D (D+200) kv' T:=by
 obtain⟨H1,C,b1,p1,g1,m1,n1⟩:=box c.ok (.cells [.ptr n 0] 31 1 false);obtain⟨H2,B4,b2,p2,g2,m2,n2⟩:=box p1.ok (.cells [S ed.key] 9 1 false);obtain⟨H3,B3,b3,J,g3,m3,n3⟩:=box p2.ok (.cells [edF ed B V] 162 1 false);obtain⟨H4,d,b4,p4,g4,m4,n4⟩:=box J.ok (.map [10] []);obtain⟨H5,N,b5,O,g5,m5,n5⟩:=box p4.ok (.cells [.ptr n 0, .int .u64 (D:Nat), .map d, .nS] 242 1 false);obtain⟨H6,B6,b6,p6,g6,m6,n6⟩:=box O.ok (.cells [.nP] 240 1 false);obtain⟨m,e7,x7,y⟩:=Box.st (⟨_,g6⟩:Box H6 B6 .nP) p6.ok (x:= .ptr N 0) rfl;have i5:=p1.trans p2;have e0:=i5.trans J;have e1:=(e0.trans p4).trans O;have i6:=e1.trans p6;have a0:Prs k m:=i6.fresh y (fun a j=>by have:=e1.next;omega)
 have N1:=p1.next;have N2:=p2.next;have N3:=J.next;have N4:=p4.next;have N5:=O.next;have N6:=p6.next;have N7:=y.next
 have a7: ∀ {K:Nat} {o:AObj},H5.h.get K=some o->m.h.get K=some o:=fun {K o} hg=>by
  have:=O.ok.lt hg;rw[y.keep _ (by omega) (by omega)];exact zRB p6 O.ok hg
 have i7:=a7 g5;have i8:=a7 (zRB O p4.ok g4);have ch:Ch (XE E f) k m n N d [] [] .nS [] D D:=zOX a0 i7 i8 (by omega) (by omega) (by omega) (fun a j=>j.elim c.dg.lt (c.xl a));have c6:=c.prs a0;have i9:=c.prs e0;have k2:Box m C (.ptr n 0):=⟨_,a7 (zRB (p4.trans O) J.ok (zRB J p2.ok (zRB p2 p1.ok g1)))⟩;have k3:Box m B3 (edF ed B V):=⟨_,a7 (zRB (p4.trans O) J.ok g3)⟩;have k4:Box m B4 (S ed.key):=⟨_,a7 (zRB (p4.trans O) J.ok (zRB J p2.ok g2))⟩;have l2:ld1 (.ptr C 0) H3=some (.ptr n 0):=by rw[jM (zRB J p2.ok (zRB p2 p1.ok g1))];rfl
 have l6:ld1 (.ptr n 6) H3=some (.int .u64 (D:Nat)):=by rw[jM i9.gT];rfl
 have a8:ld1 (.ptr n 2) m=some (.int .i64 q.at_):=by rw[jM c6.gT];rfl
 have bs:uB [(0,1),(1,1),(2,1),(3,1)] [.nP, .int .u64 (0:Nat), .nM, .nS] [(0, .ptr n 0),(1, .int .u64 (D:Nat)),(2, .map d)]=some (.agg [.ptr n 0, .int .u64 (D:Nat), .map d, .nS]):=rfl;have e2:uB [(0,1),(1,1),(2,1),(3,1)] [.bool false, .nS, .nS, .nS] [(0, .bool true)]=some (.agg [.bool true, .nS, .nS, .nS]):=rfl;have e3: ¬(((0:Nat):Int)≠((0:Nat):Int)):=by omega
 have t50:(((5:Nat):Int)≠((0:Nat):Int)):=by omega
 rcases hr with⟨rfl,rfl,rfl⟩ | ⟨h,nd,t,S0,hs,rn,wr,nd0,rfl,rfl⟩
 ·
  have f8:pZ.at_=((0:Nat):Int):=rfl;rw[f8]at a8;have wl:kB m (.agg [.bool true, .nS, .nS, .nS]) (leafOf []):=⟨.nS, .nS, .nS,rfl, .inl (zRF ..), .inl (zRF ..), .inl (zRF ..)⟩;have e4:Lf none none ([]:Kvs):=⟨trivial,by simp⟩;obtain⟨u,H8,_,e8,p8,w8⟩:=zJ6 (M+1) M0 (by omega) a0.ok wl e4 (by decide) ho (hb.prs c.ok a0);obtain⟨lu,rfl,a9,c7⟩:=w8.1.cells;obtain⟨H9,B8,b9,p9,g9,m9,n9⟩:=box p8.ok (.cells [.bool false, .nS, .nS, .nS] 119 1 false);obtain⟨a1,j0,c8,c9,j1⟩:=jV p9.ok g9 (l':=lu) a9 c7;have d6:stN 4 (.ptr B8 0) (.agg lu) H9=some (jQ,a1):=j0;have N8:=p8.next;have N9:=p9.next;have j2:=c9.next
  have b0:Prs m a1:=(p8.trans p9).fresh c9 (fun a j=>by omega);have g0:=ch.step b0
  cases z:ed.run []with
  | none=>
   have d0:edL ed []=(nd0,5):=by simp only[edL,z]
   rw[d0]at e8;refine⟨5,a1, ?_,rfl,a0.trans b0⟩;simp(maxSteps:=999999)(disch:=omega) only[f82,eZ,b1,b2,b3,cbx,l2,l6,mkM,b4,bs,b5,b6,e7,k2.ld,a8,k3.ld,e2,e8,jN,nth,b9,d6,t50,ne_eq,yC]
  | some kv'=>
   have d0:edL ed []=(leafOf kv',0):=by simp only[edL,z]
   rw[d0]at e8 w8;obtain⟨j3,j4⟩:=Ed.leaf (lo:=none) (hi:=none) e4 trivial trivial ho z;have d1:kv'≠[]:=by
    cases ed with
    | put At v=>simp only[Ed.run,zB]at z;subst z;simp[Nd.putP]
    | del At=>simp[Ed.run,Nd.lookP]at z
   have g7:xS (XE E f) a1 .nS (.agg lu) (leafOf kv'):=⟨(w8.1.prs p9).stp c9 (fun a j e=>by
    have:=w8.1.lt j;omega),fun a j=>⟨fun hg=>(zRC.1 hg).elim,fun hx=>by have:=w8.2 a j;have:=hx.elim c.dg.lt (c.xl a);omega⟩⟩
   obtain⟨b7,c2,h1,j5⟩:=zJN (dy (M+2)) M0 g0 g7 (by omega);have hQ:Qf E p ([]++[(D+1,leafOf kv')]) (pp (D+1))=some (leafOf kv'):=by rw[zAW];simp[jX]
   obtain⟨Z,j6,dn⟩:=Y6 (dy (M+2)) M0 (rp:=pp (D+1)) (h:=0) (t:=kv') (S:=[]) (Fr:=[pp (D+1)]) (R:=[]) (T:=[]) c hq h1 (by simp) (by omega) (by simp;omega) d9 (by simp;omega) hQ ⟨rfl,rfl⟩ ⟨j3,d1,by simp only[cK]at j4;omega⟩ (by simp) (by simp) (by
    intro dr hp;simp only[qS]at hp;subst hp;exact⟨_,rfl,by omega⟩) (by simp) (by simp) (by simp) (by simp)
   refine⟨0,Z, ?_,rfl,dn.mono (by omega) (by omega)⟩;have k6:ld1 (.ptr B6 0) a1=some (.ptr N 0):=(x7.mono y.ok b0 (fun x=>x)).ld;have j7:ld1 (.ptr B6 0) b7=some (.ptr N 0):=by
    refine((x7.mono y.ok b0 (fun x=>x)).mono b0.ok j5.1 (fun hc=> ?_)).ld;rcases hc with e | e | e
    .omega
    .omega
    .exact(zRC.1 e).elim
   simp(maxSteps:=999999)(disch:=omega) only[f82,eZ,b1,b2,b3,cbx,l2,l6,mkM,b4,bs,b5,b6,e7,k2.ld,a8,k3.ld,e2,e8,jN,nth,b9,d6,e3,k6,gP c8 a9,c2,kY j7 (cbx.2.2.2.2.2.2 _ _),j6]
 ·
  have e5: ¬q.at_=((0:Nat):Int):=by have:=zM6 hs;omega
  have hh:=wr.low c5;obtain⟨H8,Y,b8,p8,g8,m8,n8⟩:=box a0.ok (.cells [.int .i64 (0:Nat)] 3 1 false);obtain⟨H9,e9,x9,s9⟩:=Box.st (⟨_,g8⟩:Box H8 Y (.int .i64 (0:Nat))) p8.ok (x:= .int .i64 (0:Nat)) rfl;obtain⟨a1,B5,e6,c0,c8,o2,j1⟩:=box s9.ok (.cells [.nilFunc] 121 1 false);obtain⟨b7,c2,f1,a5⟩:=Box.st (⟨_,c8⟩:Box a1 B5 .nilFunc) c0.ok (x:=zGa Y C B3 B4 B5 B6) rfl;obtain⟨Z,B8,f2,c1,j8,o3,j9⟩:=box a5.ok (.cells [.bool false, .nS, .nS, .nS] 119 1 false);have N8:=p8.next;have N9:=s9.next;have j2:=c0.next;have o4:=a5.next;have o5:=c1.next
  have k0:Prs m H9:=p8.fresh s9 (fun a j=>by omega);have d2:Prs m b7:=(k0.trans c0).fresh a5 (fun a j=>by omega);have a2:Prs m Z:=d2.trans c1;have h2:=ch.step a2;have m7:=c6.prs a2;have h3:=c6.prs d2;have k1:Box Z Y (.int .i64 (0:Nat)):=((x9.mono s9.ok c0 (fun x=>x)).mono c0.ok a5 (by omega)).mono a5.ok c1 (fun x=>x);have h4:Box Z B5 (zGa Y C B3 B4 B5 B6):=f1.mono a5.ok c1 (fun x=>x);have k6:Box Z B6 (.ptr N 0):=x7.mono y.ok a2 (fun x=>x);have cl:Cl k Z n N B V ed Y C B3 B4 B5 B6 0:=⟨k1,k2.mono y.ok a2 (fun x=>x),k3.mono y.ok a2 (fun x=>x),k4.mono y.ok a2 (fun x=>x),h4,k6,hb,by omega,by omega,by omega,by omega,by omega,by omega⟩;have hold: ∀I∈H,∀a,xT I.2 a->a<k.next:=fun I c5 a j=>by
   obtain⟨o6,k5⟩:=c.pq.mem I c5;exact k5.lt j
  have d1:0<h->nd.keys≠[]:=fun h0=>by
   cases h with
   | zero=>omega
   | succ h=>rw[rn.2.1];exact wr.2.1
  obtain⟨u,e,g',c3,k7,a3,⟨lu,rfl,a9,c7⟩,a4⟩:=zOQ c hold c.ds hq ho h M (M+1) (by omega) (by omega) h2 cl hs rn wr.gen wr.sz d1 (by cases h<;>trivial) (by cases h<;>trivial) (by omega) (by omega) (by simp;omega);have k8: ¬(chg N d .nS B8\/B8=Y):=fun hc=>by
   rcases hc with(e | e | e) | e
   .omega
   .omega
   .exact(zRC.1 e).elim
   .omega
  have c4:c3.h.get B8=some (.cells [.bool false, .nS, .nS, .nS] 119 1 false):=by rw[a3.keep _ j9 k8];exact j8
  have h5:Box c3 B6 (.ptr N 0):=k6.mono c1.ok a3 (fun hc=>by
   rcases hc with(e | e | e) | e
   .omega
   .omega
   .exact(zRC.1 e).elim
   .omega)
  obtain⟨d3,k9,l0,a6,o7⟩:=jV a3.ok c4 (l':=lu) a9 c7;have d7:stN 4 (.ptr B8 0) (.agg lu) c3=some (jQ,d3):=k9;have h6:ld1 (.ptr B6 0) d3=some (.ptr N 0):=(h5.mono a3.ok a6 (by omega)).ld;have f3:ld1 (.ptr C 0) b7=some (.ptr n 0):=(k2.mono y.ok d2 (fun x=>x)).ld;have lr:ldN 3 (.ptr n 2) b7=some (.agg (jS q)):=by rw[jR h3.gT];rfl
  have d8:=f1.ld;have f4:callV [(127,f127 (dy (M+2)) M0),(126,f126 (dy (M+2)) M0),(131,f131 (dy (M+2)) M0)] (dy (M+2)) (zGa Y C B3 B4 B5 B6) [.agg (jS q)] Z=some (.tuple [.agg lu, .int .i64 ((e:Nat):Int)],c3):=k7;have f5:(.func 128 [] [.ptr Y 0, .ptr C 0, .ptr B3 0, .ptr B4 0, .ptr B5 0, .ptr B6 0]:AV)=zGa Y C B3 B4 B5 B6:=rfl
  cases z:ed.run (con h t)with
  | none=>
   rw[z]at a4;have a4:e=5:=a4;subst a4;refine⟨5,d3, ?_,rfl,⟨a6.ok,by have:=a3.next;have:=a6.next;omega,fun a j _=> ?_⟩⟩
   .simp(maxSteps:=999999)(disch:=omega) only[f82,eZ,b1,b2,b3,cbx,l2,l6,mkM,b4,bs,b5,b6,e7,k2.ld,a8,e5,b8,e9,e6,f5,c2,d8,f3,lr,f2,f4,jN,nth,d7,t50,ne_eq,yC]
   .have:=a3.next
    rw[a6.keep a (by omega) (by omega),a3.keep a (by omega) (fun hc=>by
     rcases hc with(e | e | e) | e
     .omega
     .omega
     .exact(zRC.1 e).elim
     .omega),a2.keep a (by omega) (fun x=>x),a0.keep a j (fun x=>x)]
  | some kv'=>
   rw[z]at a4;obtain⟨rfl,n0,f',d4,m0,d',o8,S',G,R,Fr,t',h7,n7,h8,h9,i0,f9,o0,f6,hG,o9,p0,p7,l1,d5,l3,l4,more,bg⟩:=a4;have i1:=h7.stb c4 a6 (by omega) (by omega);have i2:=h8.stb c4 a6;rw[qW]at f6;subst f6;have l5:(q::S0).Nodup:=nd0;have l7:(d4++R).Nodup:=d5.nodup_iff.1 l5;have i3: ∀dr∈q::S0,∃nd,Qf E p [] dr=some nd:=fun dr hp=>by
    rcases zK.1 hp with rfl | hp
    .exact⟨nd,hs⟩
    .exact kT.here rn dr hp
   have f7: ∀dr∈d4++R,∃nd,Qf E p [] dr=some nd:=fun dr hp=>i3 dr (d5.mem_iff.2 hp)
   have i4: ∀dr∈d4,∃nd,Qf E p [] dr=some nd:=fun dr hp=>f7 dr (qU _ hp)
   obtain⟨l8,l9,dn⟩:=zLt (dy (M+2)) M0 (by omega) c hq i1 i4 (by omega) (by omega) d9 i2 h9 i0 l1 l7 l4 l3 (fun dr hp=>f7 dr (yQ _ hp)) (by omega) d5 (by omega);rw[f9]at dn;refine⟨0,l8, ?_,rfl,dn.mono (by omega) (by omega)⟩;simp(maxSteps:=999999)(disch:=omega) only[f82,eZ,b1,b2,b3,cbx,l2,l6,mkM,b4,bs,b5,b6,e7,k2.ld,a8,e5,b8,e9,e6,f5,c2,d8,f3,lr,f2,f4,jN,nth,d7,e3,h6,gP l0 a9,l9]
open Go.Nd (mayK putP delP lookP)
def dV (d c:AV)(E:Ev)(H:AH)(At M L:Nat)(W:Nat->Prop)(kv:Kvs)(T:List Ptr):Prop:= ∃f root es q a,isCell c=true/\TI E H At M d c root es q a f/\(∀s nd,jX s q=some nd->s<=a)/\q.length<=a/\a<=L/\E.dl.length<=L/\vF E q root kv T/\ ∀B,W B↔B=At\/B=M\/Blk f B
def fG (d c:AV)(E:Ev)(H:AH)(At M L:Nat)(W:Nat->Prop)(root:Ptr)(q:PN)(kv:Kvs)(T:List Ptr):Prop:= ∃f es a,isCell c=true/\TI E H At M d c root es q a f/\(∀s nd,jX s q=some nd->s<=a)/\q.length<=a/\a<=L/\E.dl.length<=L/\vF E q root kv T/\ ∀B,W B↔B=At\/B=M\/Blk f B
theorem fG.d {d c:AV}{E:Ev}{H:AH}{At M L:Nat}{W:Nat->Prop}{root:Ptr}{q:PN}{kv:Kvs}{T:List Ptr}(h:fG d c E H At M L W root q kv T):dV d c E H At M L W kv T:=by
 obtain⟨f,es,a,h⟩:=h;exact⟨f,root,es,q,a,h⟩
theorem dV.x (d:dV l F U k n A t i I h): ∃root q,fG l F U k n A t i root q I h:=by
 obtain⟨f,root,es,q,a,d⟩:=d;exact⟨root,q,f,es,a,d⟩
theorem dV.prs {d c:AV}{H H':AH}{At M L:Nat}{W:Nat->Prop}{kv:Kvs}{T:List Ptr}(h:dV d c E H At M L W kv T)(s:Prs H H'):dV d c E H' At M L W kv T:=by
 obtain⟨f,root,es,q,a,j,m,o⟩:=h;exact⟨f,root,es,q,a,j,m.prs s,o⟩
theorem dV.up (c:dV l F E k n A t i I h)(hl:t<=B):dV l F E k n A B i I h:=by
 obtain⟨j,root,es,q,f,m,o,p,d,y,z,u,x⟩:=c;exact⟨j,root,es,q,f,m,o,p,d,by omega,by omega,u,x⟩
theorem dV.okH (d:dV l F E k n A t i I h):k.ok:=by
 obtain⟨j,root,es,q,f,m,a,_⟩:=d;exact a.ok
theorem dV.lt {d c:AV}{H:AH}{At M L:Nat}{W:Nat->Prop}{kv:Kvs}{T:List Ptr}(h:dV d c E H At M L W kv T): ∀B,W B->B<H.next:=by
 obtain⟨o,root,es,q,m,p,a,_,_,_,_,_,f⟩:=h;intro B j;rcases(f B).1 j with rfl | rfl | e
 .exact a.ok.lt a.gT
 .exact a.ok.lt a.gM
 .exact a.dg.lt e
def AdT (W:Nat->Prop)(H:AH)(a:Nat->Prop)(H':AH):Prop:=Stp W H H'/\ ∀B,a B->W B\/H.next<=B
theorem AdT.prs (s:Prs k C):AdT i k i C:=⟨s.mono fun _ _ x=>x.elim,fun _ h=> .inl h⟩
theorem AdT.trans {j:Nat->Prop}(h:AdT i k J C)(W:AdT J C j g):AdT i k j g:=by
 refine⟨Stp.thr h.1 W.1 fun B a=> ?_,fun B a=> ?_⟩
 .rcases h.2 B a with e | e
  .exact .inr e
  .exact .inl e
 .have:=h.1.next
  rcases W.2 B a with e | e
  .exact h.2 B e
  .exact .inr (by omega)
structure Chd (E E':Ev)(T T':List Ptr):Prop where
 nb:E'.nb=E.nb
 ws:E'.ws=E.ws
 xx:E'.x=E.x
 pm:(dsk T'++E'.dl).Perm (dsk T++E.dl)
theorem Chd.refl (E:Ev)(T:List Ptr):Chd E E T T:=⟨rfl,rfl,rfl,List.Perm.refl _⟩
theorem Chd.trans {E a f:Ev}{T T1 j:List Ptr}(h:Chd E a T T1)(k:Chd a f T1 j):Chd E f T j:=⟨k.nb.trans h.nb,k.ws.trans h.ws,k.xx.trans h.xx,k.pm.trans h.pm⟩
theorem zM8.treeD {L:Nat}(M:zM8 E k C n A l F V t B I h)(z:isCell F=true)(a: ∀At,i At↔At=n\/At=A\/Blk V At)(hL:B<=L)(hd:E.dl.length+100<=L):
  ∃H' u f,dV l F H' C n A L u I f/\AdT i k u C/\Chd E H' h f:=by
 obtain⟨gl,root,es,q,y,o,f,H0,J,K,N,O,h6,h7,S,Y,Z⟩:=M;have a0:=zEX E gl;refine⟨E.drop gl,fun At=>At=n\/At=A\/Blk o At,f,⟨o,root,es,q,y,z,H0,N,O,by omega,by omega,S,fun At=>Iff.rfl⟩,⟨J.mono fun At _ j=>(a At).2 j,fun At j=> ?_⟩,⟨rfl,rfl,rfl,Y⟩⟩;rcases j with e | e | e
 .exact .inl ((a At).2 (.inl e))
 .exact .inl ((a At).2 (.inr (.inl e)))
 .rcases K At e with x | x
  .exact .inl ((a At).2 (.inr (.inr x)))
  .exact .inr x
def JH (k v:Str):Bool:=mayK k&&decide (v.length<=200)
theorem zHF (m c:Nat)(hm:300000000<=m)(hn:300000000<=c){L:Nat}{k v:Str}(t:dV l F E C n A L i I h)(hL:L<=500000000)(Y:I.length<=1000000000):
  ∃H' a f H,f38 (dy (m+2)) c [.ptr n 0,S k,S v] C=some (.int .i64 (if JH k v then 0 else 1:Nat),H')/\dV l F a H' n A (L+200) f (if JH k v then putP k v I else I) H/\AdT i C f H'/\Chd E a h H:=by
 obtain⟨dr,root,es,q,a4,hc,J,h2,h3,h4,a5,h5,hW⟩:=id t;obtain⟨H1,A4,b1,p,g1,m1,n1⟩:=box J.ok (.cells [S k] 9 1 false);obtain⟨j,K,b2,N,g2,m2,n2⟩:=box p.ok (.cells [S v] 9 1 false);have o:=p.trans N;have y:=J.prs o;have x4:Box j A4 (S k):=⟨_,zRB N p.ok g1⟩;have u:Box j K (S v):=⟨_,g2⟩;have z:=YV (dy (m+2)) c y;by_cases hp:JH k v=true
 .obtain⟨d,Z⟩:mayK k=true/\v.length<=200:=by simpa[JH]using hp
  obtain⟨e,O,e3,x⟩:=zCv m c hm hn (ed:= .put k v) y h2 h3 (by omega) h5 (by omega) Y ⟨d,Z⟩ ⟨x4,u⟩;simp only[Ed.run]at x;obtain⟨rfl,dn⟩:=x;obtain⟨a,f,H,d1,d2,d3⟩:=dn.treeD hc hW (L:=L+200) (by omega) (by omega);simp only[Nd.mayK,zE,zT]at d;refine⟨O,a,f,H, ?_,by rw[if_pos hp];exact d1,(AdT.prs o).trans d2,d3⟩;have a1: ¬(k.length:Int)< ((1:Nat):Int):=by omega
  have a2: ¬((40:Nat):Int)< (k.length:Int):=by omega
  have a3: ¬((200:Nat):Int)< (v.length:Int):=by omega
  have a0:f82 (dy (m+2)) c [.ptr n 0,S k, .func 88 [] [.ptr A4 0, .ptr K 0]] j=some (.int .i64 (0:Nat),O):=e3;simp(maxSteps:=999999)(disch:=omega) only[f38,eZ,cbx,b1,b2,z,x4.ld,u.ld,a1,a2,a3,a0,hp]
 .refine⟨j,E,i,h, ?_,by rw[if_neg hp];exact(t.prs o).up (by omega),AdT.prs o,Chd.refl E h⟩;have hx:(k.length:Int)< ((1:Nat):Int)\/((40:Nat):Int)< (k.length:Int)\/((200:Nat):Int)< (v.length:Int):=by
   simp only[JH,Nd.mayK,zE,zT]at hp;omega
  simp(maxSteps:=999999)(disch:=omega) only[f38,eZ,cbx,b1,b2,z,x4.ld,u.ld,hp];rw[if_pos (by simpa[or_assoc]using hx)];rfl
def Z4 (k:Str)(kv:Kvs):Nat:=if mayK k then(if(lookP k kv).isSome then 0 else 5)else 1
theorem zJf (m c:Nat)(hm:300000000<=m)(Z:300000000<=c){L:Nat}{k:Str}(t:dV l F E C n A L i I h)(hL:L<=500000000)(N:I.length<=1000000000):
  ∃H' o p u,f29 (dy (m+2)) c [.ptr n 0,S k] C=some (.int .i64 (Z4 k I:Nat),H')/\dV l F o H' n A (L+200) p (if Z4 k I=0 then delP k I else I) u/\AdT i C p H'/\Chd E o h u:=by
 obtain⟨dr,root,es,q,a0,hc,J,h2,h3,h4,a3,h5,hW⟩:=id t;obtain⟨y,A4,b1,f,g1,m1,n1⟩:=box J.ok (.cells [S k] 9 1 false);have z:=J.prs f;have x4:Box y A4 (S k):=⟨_,g1⟩;have d:=YV (dy (m+2)) c z;by_cases hp:mayK k=true
 .obtain⟨e,x,e3,j⟩:=zCv m c hm Z (V:=0) (ed:= .del k) z h2 h3 (by omega) h5 (by omega) N hp x4;have O:=hp;simp only[Nd.mayK,zE,zT]at O;have a1: ¬(k.length:Int)< ((1:Nat):Int):=by omega
  have a2: ¬((40:Nat):Int)< (k.length:Int):=by omega
  have Y:f82 (dy (m+2)) c [.ptr n 0,S k, .func 83 [] [.ptr A4 0]] y=some (.int .i64 e,x):=e3;have run:f29 (dy (m+2)) c [.ptr n 0,S k] C=some (.int .i64 e,x):=by
   simp(maxSteps:=999999)(disch:=omega) only[f29,eZ,cbx,b1,d,x4.ld,a1,a2,Y,hp]
  cases hr:(Ed.del k).run I with
  | none=>
   rw[hr]at j;obtain⟨rfl,K⟩:=j;have hl:(lookP k I).isSome=false:=by
    simp only[Ed.run]at hr;split at hr
    .cases hr
    .rename_i H;simpa using H
   have a:Z4 k I=5:=by simp only[Z4,hp,if_true,hl,zL,qD]
   refine⟨x,E,i,h,by rw[a];exact run,by rw[a];exact(t.prs (f.trans K)).up (by omega),AdT.prs (f.trans K),Chd.refl E h⟩
  | some kv'=>
   rw[hr]at j;obtain⟨rfl,dn⟩:=j;obtain⟨o,p,u,d1,d2,d3⟩:=dn.treeD hc hW (L:=L+200) (by omega) (by omega);have hl:(lookP k I).isSome=true/\delP k I=kv':=by
    simp only[Ed.run]at hr;split at hr
    .rename_i H;exact⟨H,by simpa using hr⟩
    .cases hr
   have a:Z4 k I=0:=by simp only[Z4,hp,if_true,hl.1]
   refine⟨x,o,p,u,by rw[a];exact run,by rw[a,if_pos rfl,hl.2];exact d1,(AdT.prs f).trans d2,d3⟩
 .have a:Z4 k I=1:=by simp only[Z4,hp,zL,qD]
  refine⟨y,E,i,h, ?_,by rw[a];exact(t.prs f).up (by omega),AdT.prs f,Chd.refl E h⟩;rw[a];have hx:(k.length:Int)< ((1:Nat):Int)\/((40:Nat):Int)< (k.length:Int):=by
   simp only[Nd.mayK,zE,zT]at hp;omega
  simp(maxSteps:=999999)(disch:=omega) only[f29,eZ,cbx,b1,d,x4.ld];rw[if_pos (by simpa using hx)];rfl
end Go.Eng.Sh
end
section
namespace Go.Eng
def Stk (k e:Nat)(H:AH)(v:AV)(n:Nat)(l:List AV):Prop:=
 l.length=n*k/\((v= .nS/\n=0)\/ ∃A cc cells g r,v= .slice A 0 n cc/\A<H.next/\H.h.get A=some (.cells cells e k g)/\cells.length=r*k/\n<=r/\cells.take (n*k)=l/\(cc=2*r\/(cc=1/\g=true)))
theorem Stk.row (h:Stk n A k l t e):Rw n k l t e:=by
 obtain⟨a,⟨rfl,rfl⟩ | ⟨H,cc,cells,g,r,rfl,f,j,hl,m,o,_⟩⟩:=h
 .exact⟨a, .inl ⟨rfl,rfl⟩⟩
 .have:=yN n m;exact⟨a, .inr (.inr ⟨H,0,cc,cells,A,n,g,rfl,j,f,by omega,by rw[yM];exact o⟩)⟩
theorem Stk.mono (h:Stk n A k l t e)(s:Stp i k C)(j: ∀S,Blk l S-> ¬i S):Stk n A C l t e:=by
 obtain⟨a,m | ⟨S,cc,cells,g,r,rfl,f,o,p⟩⟩:=h
 .exact⟨a, .inl m⟩
 .exact⟨a, .inr ⟨S,cc,cells,g,r,rfl,qG f s.next,by rw[s.keep S f (j S (zRu.2 rfl))];exact o,p⟩⟩
theorem Stk.lt (h:Stk n A k l t e)(a:Blk l B):B<k.next:=by
 obtain⟨j,⟨rfl,rfl⟩ | ⟨H,cc,cells,g,r,rfl,f,m,o⟩⟩:=h
 .exact(zRC.1 a).elim
 .rw[zRu.1 a];exact f
theorem Stk.isCell {k e n:Nat}{H:AH}{v:AV}{l:List AV}(h:Stk k e H v n l):isCell v=true:=h.row.isCell
theorem Stk.room (a:0<n)(hl:e.length=t*n)(f:A=2*t\/(A=1/\W=true)):kN e W n 0 A n=t:=by
 rcases f with rfl | ⟨rfl,rfl⟩
 .simp only[kN,show((2*t) % 2).beq 0=true by rw[jC];rfl,zO,yP t (show 0<2 by omega)]
 .simp only[kN,show((1 % 2).beq 0)=false from rfl,qH,yE,show Nat.beq 0 (1 / 2*n)=true from by simp,qN,zO,jZ,hl,jD];exact Nat.mul_div_cancel _ a
theorem Stk.cut (h:Stk n A k l t e)(m:0<n)(hi:B<=t)(κ:IntKind):
  ∃r,vN n l none (some (.int κ (B:Nat))) none k=some r/\Stk n A k r B (e.take (B*n))/\ ∀v,Blk r v->Blk l v:=by
 have f:=kK κ (z:=(B:Int)) (by omega);simp only[yB]at f;have hb:Nat.blt 0 n=true:=by rw[qE];exact m
 have u:B*n<=t*n:=yN _ hi;obtain⟨x,⟨rfl,rfl⟩ | ⟨i,cc,cells,g,r,rfl,q,j,hl,J,y,H⟩⟩:=h
 .obtain rfl:B=0:=by omega
  exact⟨.nS,by simp only[vN,kW,f];simp,⟨by simp, .inl ⟨rfl,rfl⟩⟩,fun v a=>a⟩
 .have b1:Nat.ble B r=true:=by rw[qV];omega
  have b2:Nat.ble 0 B=true:=by rw[qV];omega
  have hr:=Stk.room m hl H;have o:(e.take (B*n)).length=B*n:=by rw[qB,x];omega
  have p:cells.take (B*n)=e.take (B*n):=by rw[<-y,List.take_take,Nat.min_eq_left u]
  rcases H with rfl | ⟨rfl,rfl⟩
  .refine⟨.slice i 0 B (2*r), ?_,⟨o, .inr ⟨i,2*r,cells,g,r,rfl,q,j,hl,by omega,p, .inl rfl⟩⟩,fun v a=>by rw[zRu.1 a];exact zRu.2 rfl⟩;have C:(2*r) / 2=r:=yP r (show 0<2 by omega);simp only[vN,kW,f,j,hb,zO,JD,hr,Option.getD_none,y9,b1,b2,qN,show((2*r) % 2).beq 0=true by rw[jC];rfl,kE,Nat.zero_mul,Nat.add_zero,jD,C]
   cases Nat.beq r 0<;>rfl
  .refine⟨.slice i 0 B 1, ?_,⟨o, .inr ⟨i,1,cells,true,r,rfl,q,j,hl,by omega,p, .inr ⟨rfl,rfl⟩⟩⟩,fun v a=>by rw[zRu.1 a];exact zRu.2 rfl⟩;simp only[vN,kW,f,j,hb,zO,JD,hr,Option.getD_none,y9,b1,b2,qN,show((1 % 2).beq 0)=false from rfl,qH,kE,show Nat.beq 0 0=true from rfl]
theorem Stk.app {bytes m:Nat}{new:List AV}(o:k.ok)(v:0<n)(h:Stk n A k l t e)(T:srcOf n F k=some (m,new))(hm:new.length=m*n)(Y:jP new=true)(a1:m=1)(y:t+m<=1000000000)(hb:bytes<=1000):
  ∃a H',apP A n bytes l F k=some (a,H')/\Stk n A H' a (t+m) (e++new)/\Stp (Blk l) k H'/\ ∀B,Blk a B->Blk l B\/k.next<=B:=by
 suffices hx: ∃a H',app1 A n bytes m new l k=some (a,H')/\Stk n A H' a (t+m) (e++new)/\Stp (Blk l) k H'/\ ∀B,Blk a B->Blk l B\/k.next<=B by
  obtain⟨a,H',Z,h2⟩:=hx;exact⟨a,H',by simp only[apP,T,Y,zO,Z],h2⟩
 have own: ∀ {H':AH},Own n A H' (.slice k.next 0 (t+m) 1) (t+m) (e++new)->Stk n A H' (.slice k.next 0 (t+m) 1) (t+m) (e++new):=fun {H'} ho=>by
  obtain⟨q0,⟨q1,_⟩ | ⟨H,q1,q2,q3⟩⟩:=ho
  .cases q1
  .exact⟨q0, .inr ⟨H,1,_,true,t+m,q1,q2,q3,q0,zP _,zY (by omega), .inr ⟨rfl,rfl⟩⟩⟩
 have h':=h;obtain⟨f,⟨rfl,rfl⟩ | ⟨H,cc,cells,g,r,rfl,p,z,hl,O,C,x⟩⟩:=h
 .obtain rfl:e=[]:=zW (by simpa using f);obtain⟨H',e1,e2,e3,e4⟩:=KS (k:=n) (e:=A) (bytes:=bytes) (new:=new) (n:=0) (m:=m) o v (zRF n A k) hm (by omega) y hb;exact⟨_,H',e1,own e2,e3,fun B j=> .inr (by rw[zRu.1 j];exact zP _)⟩
 .have hr:=Stk.room v hl x;have a0:=yN n O;by_cases q:t+m<=r
  .have b1:Nat.ble (t+m) r=true:=by rw[qV];exact q
   have hz:Nat.blt 0 n=true:=by rw[qE];exact v
   have K:=yN n q;rw[j9]at K;have N:setAt cells (0+t*n) new=some (cells.take (t*n)++new++cells.drop (t*n+m*n)):=by rw[xJ (by omega),hm];simp only[yZ]
   have u:(cells.take (t*n)).length=t*n:=by rw[C,f]
   refine⟨.slice H 0 (t+m) cc,k.put H (.cells (cells.take (t*n)++new++cells.drop (t*n+m*n)) A n g), ?_,⟨by simp[f,hm,j9], .inr ⟨H,cc,_,g,r,rfl,p,by rw[zRt,if_pos rfl], ?_,q, ?_,x⟩⟩,(zRx o).put p _ (.inr (zRu.2 rfl)),fun B j=> .inl (by rw[zRu.1 j];exact zRu.2 rfl)⟩
   .simp only[app1,z,zGm,hr,b1,zO,hz,N,zCM,kR,kE]
   .simp only[zV,u,hm,qL];omega
   .rw[C,List.take_append_of_le_length (by simp[f,hm,j9]),zY (by simp[f,hm,j9])]
  .have b1:Nat.ble (t+m) r=false:=by rw[qY];intro A;rw[qV]at A;omega
   have J:bF cells 0 (t*n)=some e:=by rw[wC _ _ _ (.inr (by omega)),yM,C]
   rcases x with rfl | ⟨rfl,rfl⟩
   .refine⟨.slice k.next 0 (t+m) 1,k.push (.cells (e++new) A n true), ?_,own ⟨by simp[f,hm,j9], .inr ⟨k.next,rfl,Nat.lt_succ_self _,zRp _ _⟩⟩,(zRx o).push _,fun B j=> .inr (by rw[zRu.1 j];exact zP _)⟩
    simp only[app1,z,zGm,hr,b1,qH,show((2*r) % 2).beq 0=true by rw[jC];rfl,zO,J,vV,aJ y hb,Z7,ZP o,kE]
   .obtain rfl:t=r:=by omega
    have u:Nat.beq (0+t*n) (ZB cells 0)=true:=by rw[jZ,hl,yZ,yE]
    have S:(k.put H .dead).ok:=o.put p _;refine⟨.slice k.next 0 (t+m) 1,(k.put H .dead).push (.cells (e++new) A n true), ?_,own ⟨by simp[f,hm,j9], .inr ⟨k.next,rfl,Nat.lt_succ_self _,zRp (k.put H .dead) _⟩⟩,((zRx o).put p _ (.inr (zRu.2 rfl))).push _,fun B j=> .inr (by rw[zRu.1 j];exact zP _)⟩
    simp only[app1,z,zGm,hr,b1,qH,show((1 % 2).beq 0)=false from rfl,u,yE,show Nat.beq 0 (1 / 2*n)=true from by simp,qN,zO,kR,J,vV,
     aJ y hb,Z7,ZP S,kE,zRr]
end Go.Eng
end
section
namespace Go.Eng.Sh
open Go.Nd (Ptr sumL)
end Go.Eng.Sh
end
section
namespace Go.Eng
theorem X3 (a:k.ok)(o:AObj)(K:Nat->AH->Rs):VN k o K=K k.next (k.push o):=zDk a o K
end Go.Eng
namespace Go.Eng.Sh
open Go.Nd (Ptr sumL)
open Go.Nd (Str leafOf Kvs Srt mayK putP delP lookP)
open Go.Bt
variable {E:Ev}
def Item (E:Ev)(q:PN)(p:Ptr)(c:Kvs)(w:Nat):Prop:= ∃nd h,∃t:Bt.Tr h,∃S lo hi,Qf E q [] p=some nd/\kT (Qf E q []) h nd t S/\Gen h lo hi t/\(0<h->nd.keys≠[])/\wK h t<=500/\c=con h t/\w=1+S.length
def U0 (E:Ev)(q:PN):List Ptr->Kvs->Nat->Prop
 | [],c,w=>c=[]/\w=0
 | p::ps,c,w=> ∃c1 c2 a f,Item E q p c1 a/\U0 E q ps c2 f/\c=c1++c2/\w=a+f
theorem U0.app {q:PN}{h:List Ptr}{c':Kvs}{f:Nat}(j:U0 E q h c' f): ∀ {ps:List Ptr} {c:Kvs} {w:Nat},U0 E q ps c w->U0 E q (ps++h) (c++c') (w+f)
 | [],_,_,⟨e1,e2⟩=>by subst e1;subst e2;simpa using j
 | p::ps,_,_,⟨c1,c2,w1,w2,a,b,e1,e2⟩=>⟨c1,c2++c',w1,w2+f,a,U0.app j b,by rw[e1];simp,by omega⟩
theorem U0.len {q:PN} : ∀ {ps:List Ptr} {c:Kvs} {w:Nat},U0 E q ps c w->ps.length<=w
 | [],_,_,_=>by simp
 | p::ps,_,_,⟨c1,c2,w1,w2,⟨_,_,_,_,_,_,_,_,_,_,_,_,e⟩,b,e1,e2⟩=>by
  have:=U0.len b;simp only[zR];omega
theorem zHK: ∀(q:PN) (T:List Ptr),T.Nodup->(∀p∈T,∃s nd,p=pp s/\jX s q=some nd)->T.length<=q.length
 | [],T,_,h=>by
  cases T with
  | nil=>simp
  | cons p T=>obtain⟨s,nd,_,e⟩:=h p (zJ ..);cases e
 | (a,n)::q,T,hn,h=>by
  by_cases hm:pp a∈T
  .have m:=zHK q (T.erase (pp a)) (hn.erase _) fun p hp=>by
    obtain⟨o,t⟩:=(List.Nodup.mem_erase_iff hn).1 hp;obtain⟨s,nd,e,f⟩:=h p t;refine⟨s,nd,e, ?_⟩;simp only[jX]at f;rw[if_neg (fun j=>o (by rw[e,j]))]at f;exact f
   rw[List.length_erase_of_mem hm]at m;simp only[zR];omega
  .have m:=zHK q T hn fun p hp=>by
    obtain⟨s,nd,e,f⟩:=h p hp;refine⟨s,nd,e, ?_⟩;simp only[jX]at f;rw[if_neg (fun j=>hm (by rw[j,<-e];exact hp))]at f;exact f
   simp only[zR];omega
theorem zFF {k k':UInt8}{x a:Str}(hb:n<=2147483647)(h:A<=2147483647)(e:Bk.sealB k n x=Bk.sealB k' A a):n=A:=by
 obtain⟨_,q2,_,_⟩:=Bk.seal_parts (kind:=k) (birth:=n) (body:=x);obtain⟨_,f,_,_⟩:=Bk.seal_parts (kind:=k') (birth:=A) (body:=a);rw[e,f]at q2;have hl:=congrArg Nd.bee q2;rw[Nd.bee_be,Nd.bee_be,Nat.mod_eq_of_lt (by omega),Nat.mod_eq_of_lt (by omega)]at hl;exact hl.symm
theorem K_at {f:Ptr}{o:Nd.Node}(h:E.K q=some w)(t:E.K f=some o)(e:q.at_=f.at_):q=f:=by
 obtain⟨a,b,k,s,rfl,_,_,_,hb,J,u,_,_⟩:=zRw.1 h;obtain⟨x,b',k',s',rfl,_,_,_,p,C,j,_,_⟩:=zRw.1 t;have y:a=x:=by simp only[fJ]at e;omega
 subst y;rw[u]at j;have m:=qT j;have z:=zFF hb p m;subst z;rw[m]
theorem zDf: ∀(n:Nat) (T:List Ptr),T.Nodup->(∀p∈T,(∃nd,E.K p=some nd)/\p.at_< (n:Nat))->T.length<=n
 | 0,T,_,h=>by
  cases T with
  | nil=>simp
  | cons p T=>
   obtain⟨⟨nd,a⟩,m⟩:=h p (zJ ..);have:=(bX a).2;omega
 | n+1,T,hn,h=>by
  by_cases hm: ∃p∈T,p.at_=(n:Int)
  .obtain⟨p,hp,u⟩:=hm;have a:=zDf n (T.erase p) (hn.erase _) fun x f=>by
    obtain⟨m,o⟩:=(List.Nodup.mem_erase_iff hn).1 f;obtain⟨⟨nd,j⟩,q⟩:=h x o;obtain⟨⟨y,t⟩,_⟩:=h p hp;refine⟨⟨nd,j⟩, ?_⟩;by_cases e:x.at_=p.at_
    .exact absurd (K_at j t e) m
    .omega
   rw[List.length_erase_of_mem hp]at a;omega
  .have a:=zDf n T hn fun x f=>by
    obtain⟨j,q⟩:=h x f;refine⟨j, ?_⟩;have: ¬x.at_=(n:Int):=fun e=>hm ⟨x,f,e⟩
    omega
   omega
theorem zO1 (u:h.Nodup)(T: ∀q∈h,∃nd,Qf E p [] q=some nd):h.length - (dsk h).length<=p.length/\(dsk h).length<=8192/\(dsk h).length<=h.length:=by
 have hl:=List.length_eq_countP_add_countP (fun q:Ptr=>decide (q.at_≠1)) (l:=h);have x:List.countP (fun q:Ptr=>decide (q.at_≠1)) h=(dsk h).length:=List.countP_eq_length_filter ..;have y:List.countP (fun a:Ptr=>decide ¬(decide (a.at_≠1))=true) h=(h.filter fun a:Ptr=>decide ¬(decide (a.at_≠1))=true).length:=List.countP_eq_length_filter ..;rw[x,y]at hl;have C:=zHK p (h.filter fun a:Ptr=>decide ¬(decide (a.at_≠1))=true) (u.filter _) fun q hp=>by
  obtain⟨m,o⟩:=List.mem_filter.1 hp;have t:q.at_=1:=by simpa using o
  obtain⟨nd,j⟩:=T q m;obtain⟨s,rfl,f | ⟨_,f⟩⟩ | ⟨_,f⟩:=uO j
  .simp[jX]at f
  .exact⟨s,nd,rfl,f⟩
  .have:=(bX f).2;omega
 have J:=zDf 8192 (dsk h) (u.filter _) fun q hp=>by
  obtain⟨m,o⟩:=List.mem_filter.1 hp;have t:q.at_≠1:=by simpa using o
  obtain⟨nd,j⟩:=T q m;have z:=zAY j;simp only[Nd.kidOk,zE,zT]at z;obtain⟨s,rfl,_⟩ | ⟨_,f⟩:=uO j
  .exact absurd rfl t
  .exact⟨⟨nd,f⟩,by omega⟩
 omega
theorem zKx {t:Bt.Tr n}(f:Qf E p [] q=some w)(j:kT (Qf E p []) n w t h): ∀x∈q::h,∃w,Qf E p [] x=some w:=fun x a=>by
 rcases zK.1 a with rfl | a
 .exact⟨w,f⟩
 .exact kT.here j x a
theorem UB {t:Bt.Tr n}(f:Qf E p [] q=some w)(a:kT (Qf E p []) n w t h)(wr:WR n t)(nd0:(q::h).Nodup):U0 E p [q] (con n t) (1+h.length)/\1+h.length<=8192+p.length:=by
 constructor
 .refine⟨con n t,[],1+h.length,0,⟨w,n,t,h,none,none,f,a,wr.gen,fun j=> ?_,wr.sz,rfl,rfl⟩,⟨rfl,rfl⟩,by simp,by omega⟩
  cases n with
  | zero=>omega
  | succ n=>rw[a.2.1];exact wr.2.1
 .have:=zO1 nd0 (zKx f a);simp only[zR]at this;omega
end Go.Eng.Sh
end
section
namespace Go.Eng
end Go.Eng
namespace Go.Eng.Sh
open Go.Nd (Ptr sumL leafOf Kvs Srt mayK putP delP lookP)
open Go.Bt
variable {E:Ev}
theorem cR: ∀l:List Ptr,(l.flatMap jS).length=l.length*3
 | []=>rfl
 | p::l=>by
  rw[qI,zV,cR l,zR];show 3+l.length*3=_;omega
theorem TI.hold (m:TI E k n A l F q H p t V): ∀kv∈H,∀B,xT kv.2 B->B<k.next:=fun kv f B o=>by
 obtain⟨At,h⟩:=m.pq.mem kv f;exact h.lt o
end Go.Eng.Sh
end
section
namespace Go.Eng
theorem KR {m:Int} : ∀ {a:AV},aveq (.int z m) a=true->a= .int z m:=by
 intro a h
 cases a<;>simp only[aveq]at h
 case int k κ=>
  rw[zE]at h;have f:=h.1;have j:=h.2;rw[xY]at f;rw[xZ]at j;simp only[zT,beq_iff_eq]at f j;subst f;subst j;rfl
 all_goals cases h
theorem zCH (κ:IntKind)(m j:Int):aveq (.int κ j) (.int κ m)=decide (j=m):=by
 have:keq κ κ=true:=by rw[xY];simp
 simp only[aveq,this,Bool.true_and,xZ];rw[yI];simp
theorem UX {κ:IntKind}{m:Int}{v:AV} : ∀ {es es':List (AV×AV)},K1 (.int κ m) v es=some es'-> ∀j:Int,kZ (.int κ j) es'=if j=m then some v else kZ (.int κ j) es
 | [],_,h,_=>by cases h
 | (a,b)::es,es',h,j=>by
  simp only[K1]at h
  cases e:aveq (.int κ m) a with
  | true=>
   rw[e]at h;have p:=KR e;subst p;obtain rfl:=qT h;simp only[kZ,zCH];by_cases f:j=m
   .simp[f]
   .simp[f]
  | false=>
   rw[e]at h;simp only[qH]at h
   cases o:K1 (.int κ m) v es with
   | none=>rw[o]at h;cases h
   | some r=>
    rw[o]at h;obtain rfl:=qT h;have q:=UX o j;simp only[kZ,q];by_cases f:j=m
    .subst f;simp[e]
    .simp[f]
theorem zBs {κ:IntKind}{m:Int}{v:AV} : ∀ {es:List (AV×AV)},K1 (.int κ m) v es=none-> ∀j:Int,kZ (.int κ j) (es++[(.int κ m,v)])=if j=m then some v else kZ (.int κ j) es
 | [],_,j=>by
  simp only[qW,kZ,zCH];by_cases f:j=m<;>simp[f]
 | (a,b)::es,h,j=>by
  simp only[K1]at h
  cases e:aveq (.int κ m) a with
  | true=>rw[e]at h;cases h
  | false=>
   rw[e]at h;simp only[qH]at h
   cases o:K1 (.int κ m) v es with
   | some r=>rw[o]at h;cases h
   | none=>
    have p:=zBs o j;simp only[qF,kZ,p];by_cases f:j=m
    .subst f;simp[e]
    .simp[f]
theorem zPN {ks:List Nat}(a:k.ok)(h:k.h.get n=some (.map ks H))(p:Y4 ks ks=true){m:Int}(o:xO ks (.int z m)=true)(v:AV):
  ∃H' es',upM ks (.map n) (.int z m) v k=some (jQ,H')/\H'.h.get n=some (.map ks es')/\(∀j:Int,kZ (.int z j) es'=if j=m then some v else kZ (.int z j) H)/\Stp (fun B=>B=n) k H'/\H'.next=k.next:=by
 cases f:K1 (.int z m) v H with
 | some es'=>
  refine⟨k.put n (.map ks es'),es', ?_,by rw[zRt,if_pos rfl],UX f,(zRx a).put (a.lt h) _ (.inr rfl),rfl⟩;simp only[upM,o,zO,h,p,f,kR]
 | none=>
  refine⟨k.put n (.map ks (H++[(.int z m,v)])),_, ?_,by rw[zRt,if_pos rfl],zBs f,(zRx a).put (a.lt h) _ (.inr rfl),rfl⟩;simp only[upM,o,zO,h,p,f,kR]
end Go.Eng
namespace Go.Eng.Sh
open Go.Nd (Ptr Str)
open Go.Bk
theorem zLl (D:Dyn)(n:Nat)(o:k.ok){nb:Nat}(N:64<=nb)(O:nb<=8192): ∃H' A j m,f32 D n [.int .i64 nb] k=some (.tuple [.ptr A 0, .int .i64 (0:Nat)],H')/\Prs k H'/\k.next<=A/\k.next<=j/\k.next<=m/\DkI H' A nb [] j m .nS []:=by
 obtain⟨S,A1,b1,f,p,T,Y⟩:=box o (.map [6] []);obtain⟨Z,A2,b2,a,q,m2,n2⟩:=box f.ok (.map [6] []);obtain⟨t,u,x,h,y,m3,n3⟩:=box a.ok (.cells [.int .i64 nb, .map A1, .nS, .map A2, .int .i64 (0:Nat), .nS, .bool false] 151 1 false);have N1:=f.next;have N2:=a.next
 refine⟨t,u,A1,A2, ?_,(f.trans a).trans h,by omega,by omega,by omega,⟨y,zRB (a.trans h) f.ok p,zRB h a.ok q,zRF ..,fun n=>rfl,fun w z=>(List.not_mem_nil z).elim,by simp,by omega⟩⟩;have C: ¬(nb:Int)< ((64:Nat):Int):=by omega
 have J: ¬((8192:Nat):Int)< (nb:Int):=by omega
 have K:uB [(0,1),(1,1),(2,1),(3,1),(4,1),(5,1),(6,1)] [.int .i64 (0:Nat), .nM, .nS, .nM, .int .i64 (0:Nat), .nS, .bool false] [(0, .int .i64 nb),(1, .map A1),(3, .map A2)]=some (.agg [.int .i64 nb, .map A1, .nS, .map A2, .int .i64 (0:Nat), .nS, .bool false]):=rfl;simp(maxSteps:=999999)(disch:=omega) only[f32,f85,eZ,C,J,mkM,b1,b2,K,x]
theorem zJB (r:Nat){x c:AV}{s:List AV}(hr:e.length=512)(a:s.length=512)(h:isCell x=true):uB [(0,1),(1,512)] (c::e) [(0,x),(1, .agg s)]=some (.agg (x::s))/\aU r 513 1 (c::e) [(0, .agg (x::s))]=some (.cells (x::s) r 513 false,fun A=> .slice A 0 1 2):=by
 have j:setAt (c::e) 0 [x]=some (x::e):=by rw[xJ (by simp)];rfl
 have m:setAt (x::e) 1 s=some (x::s):=by
  rw[xJ (by simp[hr,a])];have:(x::e).drop (1+s.length)=[]:=qX (by simp[hr,a]);rw[this];simp
 have o:setAt (c::e) 0 (x::s)=some (x::s):=by
  rw[xJ (by simp[hr,a])];have:(c::e).drop (0+(x::s).length)=[]:=qX (by simp[hr,a]);rw[this];simp
 have l1:(ZB [x] 0).beq 1=true:=rfl;have p:(ZB s 0).beq 512=true:=by rw[jZ,a];exact yE _
 have q:(ZB (x::s) 0).beq 513=true:=by rw[jZ,zR,a];exact yE _
 have t:=kS h;constructor
 .simp only[uB,fR,zKT,t,l1,zO,j];simp only[jU,p,zO,m]
 .have f:rep 1 (c::e)=c::e:=by simp only[rep,yG]
  simp only[aU,f,fR,jU,q,zO,Nat.zero_mul,o]
theorem zGb (p:Dyn)(Ad:Nat)(y:k.ok)(d:DkI k n A Y t B l H)(a9:D<A){b:Str}(hb:b.length=512)(hf:Y.length<1000000):
  ∃H' a0 es',f26 p Ad [.ptr n 0, .int .i64 D, .agg (jO b)] k=some (.int .i64 (0:Nat),H')/\DkI H' n A (Y++[(D,b)]) t B a0 es'/\Stp (fun z=>z=n\/z=B\/Blk l z) k H'/\(∀z,Blk a0 z->Blk l z\/k.next<=z):=by
 obtain⟨Z,hZ⟩: ∃Z:Str,Z=List.replicate 512 0:=⟨_,rfl⟩;have b0:rep 512 [AV.int .u8 (0:Nat)]=jO Z:=by rw[ZM,hZ]
 have b2:(jO Z).length=512:=by rw[jT,hZ];exact List.length_replicate
 obtain⟨H1,A5,b1,J,g1,m1,n1⟩:=box y (.cells (jO b) 55 1 false);have q:=d.prs y J;have ha:=zNa p Ad q a9;have b4: ¬(((0:Nat):Int)≠((0:Nat):Int)):=by omega
 have r3:Eng.ld1 (.ptr n 3) H1=some (.map B):=by rw[jM q.gD];rfl
 have r2:Eng.ld1 (.ptr n 2) H1=some l:=by rw[jM q.gD];rfl
 have lD:=y.lt d.gD;have lN:=y.lt d.gN;have lO:=y.lt d.gO;have a4:n≠B:=fun e=>by have:=d.gD;rw[e,d.gN]at this;cases this
 have b5:n≠t:=fun e=>by have:=d.gD;rw[e,d.gO]at this;cases this
 have wA: ∀z,Blk l z->z<k.next/\z≠n/\z≠t/\z≠B:=fun z a=>by
  have g:=d.ow.get a;refine⟨y.lt g,fun e=> ?_,fun e=> ?_,fun e=> ?_⟩
  .rw[e,d.gD]at g;simp at g
  .rw[e,d.gO]at g;cases g
  .rw[e,d.gN]at g;cases g
 obtain⟨O,es',e2,g2,f2,ws,n2⟩:=zPN J.ok q.gN rfl (m:=(D:Int)) (keyI _) (.int .i64 Y.length);have N1:=J.next
 have a5:O.h.get n=_:=(ws.keep _ (by omega) a4).trans q.gD;have b6:O.h.get t=_:=(ws.keep _ (by omega) d.ne).trans q.gO;have b7:Eng.ld1 (.ptr n 2) O=some l:=by rw[jM a5];rfl
 have g5:O.h.get A5=_:=(ws.keep _ (by omega) (by omega)).trans g1;have rb:=ldR g5 hb;have T:(jO b).length=512:=by rw[jT,hb]
 obtain⟨q1,q2⟩:=zJB 153 (x:= .int .i64 D) (c:= .int .i64 (0:Nat)) b2 T rfl;obtain⟨S,A6,b3,u,g3,m3,n3⟩:=box ws.ok (.cells (.int .i64 D::jO b) 153 513 false);have a8:srcOf 513 (.slice A6 0 1 2) S=some (1,wV (D,b)):=by
  have b8:bF (AV.int .i64 D::jO b) 0 (1*513)=some (wV (D,b)):=by
   rw[wC _ _ _ (.inr (by simp[T])),yM,zY (by simp[T])];rfl
  simp only[srcOf,g3,b8]
 have N2:=ws.next;have N3:=u.next
 have b9:Own 513 153 S l Y.length (Y.flatMap wV):=((d.ow.mono J fun _ _ x=>x).mono ws fun z a=>(wA z a).2.2.2).mono u fun _ _ x=>x
 have c0:jP (wV (D,b))=true:=by
  have:=bytesV_cells b;simp only[wV,jP,this];rfl
 obtain⟨H4,e4,c1,C,n4⟩:=gK (bytes:=520) (m:=1) u.ok (by decide) b9 a8 (by rw[zDT hb]) c0 (by omega) (by omega) (by decide);have N4:=C.next
 have a6:H4.h.get n=_:=(C.keep _ (by omega) (fun a=>(wA n a).2.1 rfl)).trans ((u.keep _ (by omega) (fun x=>x)).trans a5);have c3:Eng.ld1 (.ptr n 2) H4=some l:=by rw[jM a6];rfl
 obtain⟨H5,e5,a7,K,n5⟩:=xM C.ok a6 (o:=2) (x:= .slice S.next 0 (Y.length+1) 1) rfl (by simp)
 have c2:Eng.ld1 (.ptr n 4) H5=some (.int .i64 (0:Nat)):=by rw[jM a7];rfl
 refine⟨H5, .slice S.next 0 (Y.length+1) 1,es', ?_,⟨a7, ?_, ?_, ?_,fun j=> ?_,fun w N=> ?_,by simp;omega,d.ne⟩,⟨K.ok,by omega,fun z a nb=> ?_⟩,fun z a=> .inr (by rw[zRu.1 a];omega)⟩
 .simp(maxSteps:=999999)(disch:=omega) only[f26,f75,eZ,b1,ha,b4,r3,r2,q.ow.row.lnSl,e2,b7,rb,b0,qF,qW,q1,q2,b3,e4,e5,c2]
 .rw[K.keep _ (by omega) (fun e=>b5 e.symm),C.keep _ (by omega) (fun a=>(wA t a).2.2.1 rfl),u.keep _ (by omega) (fun x=>x)];exact b6
 .rw[K.keep _ (by omega) (fun e=>a4 e.symm),C.keep _ (by omega) (fun a=>(wA B a).2.2.2 rfl),u.keep _ (by omega) (fun x=>x)];exact g2
 .have:=c1.mono K fun z a=>by rw[zRu.1 a];omega
  simpa[yY]using this
 .rw[f2,J1,d.nw j];by_cases e:D=j
  .subst e;simp
  .have e': ¬((j:Nat):Int)=(D:Int):=by omega
   rw[if_neg e',if_neg e]
 .rcases zZ.1 N with N | N
  .exact d.ln w N
  .obtain rfl:w=(D,b):=by simpa using N
   exact hb
 .have a1: ¬z=n:=fun e=>nb (.inl e)
  have a2: ¬z=B:=fun e=>nb (.inr (.inl e))
  have a3: ¬Blk l z:=fun e=>nb (.inr (.inr e))
  rw[K.keep z (by omega) a1,C.keep z (by omega) a3,u.keep z (by omega) (fun x=>x),ws.keep z (by omega) a2,J.keep z a (fun x=>x)]
end Go.Eng.Sh
end
section
namespace Go.Eng
theorem bY (n A off:Nat)(k:IntKind){z:Int}(i:Nat)(f:z=(i:Int))(h:i<n):fQ n 1 (.ptr A off) (.int k z)=some (.ptr A (off+i)):=by
 subst f;have a:=kK k (z:=(i:Int)) (by omega);simp only[yB]at a;have hb:Nat.blt i n=true:=by rw[qE];exact h
 simp only[fQ,a,hb,zO,kE,Nat.mul_one]
end Go.Eng
namespace Go.Bk
def cnt (is:Nat->Nat)(w:Nat):Nat->Nat
 | 0=>0
 | n+1=>cnt is w n+(if is n=w then 1 else 0)
def VL (is:Nat->Nat)(i b:Nat):Nat->Nat:=fun j=>if j=i then b else is j
theorem fO (is:Nat->Nat)(i b:Nat):VL is i b i=b:=by simp[VL]
theorem fC (h:t≠n):VL v n A t=v t:=by simp[VL,h]
theorem zFa (is:Nat->Nat)(w:Nat): ∀n,cnt is w n<=n
 | 0=>zP _
 | n+1=>by
  have:=zFa is w n;simp only[cnt];split<;>omega
theorem zN7 {is a:Nat->Nat}{w:Nat} : ∀ {n:Nat},(∀i,i<n->(is i=w↔a i=w))->cnt is w n=cnt a w n
 | 0,_=>rfl
 | n+1,h=>by
  have j:=zN7 (n:=n) fun i hi=>h i (by omega)
  have f:=h n (by omega);simp only[cnt,j];by_cases e:is n=w
  .rw[if_pos e,if_pos (f.1 e)]
  .rw[if_neg e,if_neg fun x=>e (f.2 x)]
theorem zAM {is:Nat->Nat}{i a b:Nat}(p:is i=a)(m:a≠b): ∀ {n:Nat},(i<n->cnt (VL is i b) b n=cnt is b n+1/\cnt (VL is i b) a n+1=cnt is a n)/\(¬i<n->cnt (VL is i b) b n=cnt is b n/\cnt (VL is i b) a n=cnt is a n)
 | 0=>⟨fun h=>by omega,fun _=>⟨rfl,rfl⟩⟩
 | n+1=>by
  obtain⟨t,q⟩:=zAM p m (n:=n);refine⟨fun h=> ?_,fun h=> ?_⟩
  .by_cases e:i=n
   .subst e;obtain⟨f,j⟩:=q (by omega);simp only[cnt,fO,if_true,f,j,p];simp[m,Ne.symm m]
   .obtain⟨f,j⟩:=t (by omega);have o:n≠i:=fun x=>e x.symm
    simp only[cnt,fC o,f];omega
  .obtain⟨f,j⟩:=q (by omega);have o:n≠i:=by omega
   simp only[cnt,fC o,f,j,and_self]
theorem zJo (f:v n=A)(h:B≠A)(m:B≠t)(is:Nat):cnt (VL v n t) B is=cnt v B is:=by
 refine zN7 fun j _=> ?_
 by_cases e:j=n
 .subst e;rw[fO,f];exact⟨fun x=>absurd x.symm m,fun x=>absurd x.symm h⟩
 .rw[fC e]
theorem zN6 {is:Nat->Nat}{w:Nat} : ∀ {n:Nat},0<cnt is w n-> ∃i,i<n/\is i=w
 | 0,h=>by simp[cnt]at h
 | n+1,h=>by
  simp only[cnt]at h;by_cases e:is n=w
  .exact⟨n,by omega,e⟩
  .rw[if_neg e]at h;obtain⟨i,f,a⟩:=zN6 (n:=n) (by omega);exact⟨i,by omega,a⟩
def fnd (is:Nat->Nat)(w:Nat):Nat->Nat->Option Nat
 | 0,_=>none
 | d+1,i=>if is i=w then some i else fnd is w d (i+1)
theorem KF {is:Nat->Nat}{w:Nat} : ∀ {d i j:Nat},fnd is w d i=some j->i<=j/\j<i+d/\is j=w
 | 0,_,_,h=>by cases h
 | d+1,i,j,h=>by
  simp only[fnd]at h;split at h
  .rename_i e;obtain rfl:=qT h;exact⟨zP _,by omega,e⟩
  .obtain⟨f,m,a⟩:=KF h;exact⟨by omega,by omega,a⟩
theorem zEI {is:Nat->Nat}{w:Nat} : ∀ {d i:Nat},fnd is w d i=none-> ∀j,i<=j->j<i+d->is j≠w
 | 0,_,_,j,h1,h2=>by omega
 | d+1,i,h,j,h1,h2=>by
  simp only[fnd]at h;split at h
  .cases h
  .rename_i e;by_cases a:j=i
   .subst a;exact e
   .exact zEI h j (by omega) (by omega)
end Go.Bk
namespace Go.Eng.Sh
open Go.Bk
def Spc (H:AH)(A nb la:Nat)(is:Nat->Nat):Prop:= ∃c,H.h.get A=some (.cells c 145 1 false)/\c.length=8198/\c[0]? =some (.int .i64 nb)/\c[1]? =some (.int .i64 la)/\(∀i,i<8192->c[2+i]? =some (.int .u8 (is i:Nat)))/\(∀k,k<4->c[8194+k]? =some (.int .i64 (cnt is k nb:Nat)))/\nb<=8192/\la<8192/\ ∀i,is i<4
theorem Spc.stp {S:Nat->Prop}{H H':AH}{A nb la:Nat}{is:Nat->Nat}(h:Spc H A nb la is)(a:H.ok)(s:Stp S H H')(f: ¬S A):Spc H' A nb la is:=by
 obtain⟨c,g,h⟩:=h;exact⟨c,by rw[s.keep _ (a.lt g) f];exact g,h⟩
theorem Spc.lt {H:AH}{A nb la:Nat}{is:Nat->Nat}(h:Spc H A nb la is)(a:H.ok):A<H.next:=by
 obtain⟨c,g,h⟩:=h;exact a.lt g
theorem zD6 (D:Dyn)(n:Nat){i a b:Nat}(h:Spc k A t B v)(N:k.ok)(hi:i<t)(f:v i=a)(hb:b<4)(J:a≠b):
  ∃H',f86 D n [.ptr A 0, .int .i64 i, .int .u8 b] k=some (.tuple [],H')/\Spc H' A t B (VL v i b)/\Stp (fun la=>la=A) k H'/\H'.next=k.next:=by
 obtain⟨c,g,hl,O,c1,nb,p,S,T,u⟩:=h;have q:a<4:=by rw[<-f];exact u i
 obtain⟨q1,q2⟩:=(zAM f J (n:=t)).1 hi;have a0:=zFa v a t;have a1:=zFa v b t;obtain⟨Y,Z,y,z,n1⟩:=xM N g (o:=8194+a) (x:= .int .i64 (cnt (VL v i b) a t:Nat)) rfl (by omega);obtain⟨H2,m,g2,C,n2⟩:=xM z.ok y (o:=8194+b) (x:= .int .i64 (cnt (VL v i b) b t:Nat)) rfl (by simp;omega);obtain⟨H3,e3,g3,s3,n3⟩:=xM C.ok g2 (o:=2+i) (x:= .int .u8 b) rfl (by simp;omega);refine⟨H3, ?_,⟨_,g3,by simp[hl], ?_, ?_,fun j hj=> ?_,fun H K=> ?_,S,T,fun j=> ?_⟩,(z.trans C).trans s3,by omega⟩
 .have r0:ld1 (.ptr A (2+i)) k=some (.int .u8 a):=wY g (by rw[nb i (by omega),f]);have r1:ld1 (.ptr A (8194+a)) k=some (.int .i64 (cnt v a t:Nat)):=wY g (p a q);have r2:ld1 (.ptr A (8194+b)) Y=some (.int .i64 (cnt v b t:Nat)):=wY y (by rw[y5 (by omega)];exact p b hb);have i0:fQ 8192 1 (.ptr A 2) (.int .i64 i)=some (.ptr A (2+i)):=bY 8192 A 2 .i64 i rfl (by omega);have i1:fQ 4 1 (.ptr A 8194) (.int .u8 a)=some (.ptr A (8194+a)):=bY 4 A 8194 .u8 a rfl q;have i2:fQ 4 1 (.ptr A 8194) (.int .u8 b)=some (.ptr A (8194+b)):=bY 4 A 8194 .u8 b rfl hb;have w1:((cnt v a t:Nat):Int) - ((1:Nat):Int)=((cnt (VL v i b) a t:Nat):Int):=by omega
  have w2:((cnt v b t:Nat):Int)+((1:Nat):Int)=((cnt (VL v i b) b t:Nat):Int):=by omega
  simp(maxSteps:=999999)(disch:=omega) only[f86,eZ,i0,r0,i1,r1,w1,Z,i2,r2,w2,m,e3]
 .rw[y5 (by omega),y5 (by omega),y5 (by omega)];exact O
 .rw[y5 (by omega),y5 (by omega),y5 (by omega)];exact c1
 .by_cases e:j=i
  .subst e;rw[List.getElem?_set_self (by simp;omega),fO]
  .rw[y5 (by omega),y5 (by omega),y5 (by omega),fC e];exact nb j hj
 .rw[y5 (by omega)];by_cases e:H=b
  .subst e;rw[List.getElem?_set_self (by simp;omega)]
  .rw[y5 (by omega)];by_cases m:H=a
   .subst m;rw[List.getElem?_set_self (by omega)]
   .rw[y5 (by omega),zJo f m e];exact p H K
 .by_cases e:j=i
  .subst e;rw[fO];exact hb
  .rw[fC e];exact u j
theorem zHj (x:AV): ∀n,rep n [x]=List.replicate n x
 | 0=>rfl
 | n+1=>by rw[rep,zHj x n,List.replicate_succ];rfl
def zPq:Nat->Nat:=fun i=>if i<2 then 1 else 0
theorem zJp (w n:Nat):cnt (fun _=>w) w n=n:=by
 induction n with
 | zero=>rfl
 | succ n ih=>simp[cnt,ih]
theorem zLw (h:A≠n)(w:Nat):cnt (fun _=>A) n w=0:=by
 induction w with
 | zero=>rfl
 | succ w ih=>simp[cnt,ih,h]
theorem zO7:VL (VL (fun _=>0) 0 1) 1 1=zPq:=by
 funext i
 match i with
 | 0=>rfl
 | 1=>rfl
 | i+2=>rw[fC (by omega),fC (by omega),zPq,if_neg (by omega)]
theorem zNC (D:Dyn)(n:Nat)(hn:100<=n)(hk:k.ok){nb:Nat}(t:64<=nb)(h2:nb<=8192): ∃H' A,f34 D n [.int .i64 nb] k=some (.tuple [.ptr A 0, .int .i64 (0:Nat)],H')/\Prs k H'/\k.next<=A/\Spc H' A nb 0 zPq:=by
 obtain⟨r,hr⟩: ∃r,r=rep 8192 [AV.int .u8 (0:Nat)]:=⟨_,rfl⟩;have p:=zHj (AV.int .u8 (0:Nat)) 8192;rw[<-hr]at p;have q:r.length=8192:=by rw[p,List.length_replicate]
 have S: ∀i,i<8192->r[i]? =some (.int .u8 (0:Nat)):=fun i hi=>by rw[p,List.getElem?_replicate,if_pos hi]
 clear p;obtain⟨j,u⟩: ∃j,j=[AV.int .i64 (0:Nat), .int .i64 (0:Nat), .int .i64 (0:Nat), .int .i64 (0:Nat)]:=⟨_,rfl⟩;have hb:uB [(0,1),(1,1),(2,8192),(8194,4)] ([AV.int .i64 (0:Nat), .int .i64 (0:Nat)]++r++j) [(0, .int .i64 nb)]=some (.agg ([AV.int .i64 nb, .int .i64 (0:Nat)]++r++j)):=rfl;obtain⟨c,f⟩: ∃c,c=[AV.int .i64 nb, .int .i64 (0:Nat)]++r++j:=⟨_,rfl⟩;have T:c.length=8198:=by rw[f,u];simp[q]
 have c0:c[0]? =some (.int .i64 nb):=by rw[f];rfl
 have c1:c[1]? =some (.int .i64 (0:Nat)):=by rw[f];rfl
 have g0: ∀i,i<8192->c[2+i]? =some (.int .u8 (0:Nat)):=fun i hi=>by
  rw[f,qC,jB (by simp),yW (by simp[q];omega)];simpa using S i hi
 have g4: ∀i,i<4->c[8194+i]? =some (.int .i64 (0:Nat)):=fun i hi=>by
  rw[f,jB (by simp[q]),u];have:8194+i - ([AV.int .i64 nb, .int .i64 (0:Nat)]++r).length=i:=by simp[q]
  rw[this]
  match i,hi with
  | 0,_=>rfl
  | 1,_=>rfl
  | 2,_=>rfl
  | 3,_=>rfl
 rw[<-f]at hb;clear f;obtain⟨H1,A,b1,z,g1,m1,n1⟩:=box hk (.cells c 145 1 false);obtain⟨C,e2,g2,J,n2⟩:=xM z.ok g1 (o:=8194) (x:= .int .i64 nb) rfl (by omega);have Y:Spc C A nb 0 fun _=>0:=⟨_,g2,by simp[T],by rw[y5 (by omega)];exact c0,by rw[y5 (by omega)];exact c1,fun i hi=>by rw[y5 (by omega)];exact g0 i hi,fun H Z=>by
  by_cases e:H=0
  .subst e;rw[List.getElem?_set_self (by omega),zJp]
  .rw[y5 (by omega),zLw (fun h=>e h.symm)];exact g4 H Z,h2,by omega,fun _=>Nat.succ_pos 3⟩
 obtain⟨K,e3,a0,N,n3⟩:=zD6 D n Y J.ok (i:=0) (a:=0) (b:=1) (by omega) rfl (by omega) (by omega);obtain⟨m,e4,a3,s4,n4⟩:=zD6 D n a0 N.ok (i:=1) (a:=0) (b:=1) (by omega) rfl (by omega) (by omega);have N1:=z.next
 have i1:fQ 4 1 (.ptr A 8194) (.int .u8 (0:Nat))=some (.ptr A 8194):=bY 4 A 8194 .u8 0 rfl (by omega);refine⟨m,A, ?_,z.fresh ((J.trans N).trans s4) (fun B hB=>by omega),m1,by rw[<-zO7];exact a3⟩;obtain⟨H,rfl⟩: ∃H,n=H+1+1+1:=⟨n - 3,by omega⟩;have l0:zCd D (H+1+1+1) [.ptr A 0, .int .i64 (0:Nat)] C=some (.norm [.ptr A 0, .int .i64 (1:Nat)],K):=by
  have y:((0:Nat):Int)< ((2:Nat):Int):=by omega
  have t:((0:Nat):Int)+((1:Nat):Int)=((1:Nat):Int):=by omega
  simp(maxSteps:=999999)(disch:=omega) only[zCd,eZ,y,e3,t]
 have l1:zCd D (H+1+1+1) [.ptr A 0, .int .i64 (1:Nat)] K=some (.norm [.ptr A 0, .int .i64 (2:Nat)],m):=by
  have y:((1:Nat):Int)< ((2:Nat):Int):=by omega
  have t:((1:Nat):Int)+((1:Nat):Int)=((2:Nat):Int):=by omega
  simp(maxSteps:=999999)(disch:=omega) only[zCd,eZ,y,e4,t]
 have l2:zCd D (H+1+1+1) [.ptr A 0, .int .i64 (2:Nat)] m=some (.exit 0 [.ptr A 0],m):=by
  simp(maxSteps:=999999)(disch:=omega) only[zCd,eZ,y7]
 have O:kI (H+1+1+1) (zCd D (H+1+1+1)) [.ptr A 0, .int .i64 (0:Nat)] C=some (.exit 0 [.ptr A 0],m):=by
  rw[kX l0,kX l1,jW l2]
 have a1: ¬(nb:Int)< ((64:Nat):Int):=by omega
 have a2: ¬((8192:Nat):Int)< (nb:Int):=by omega
 simp(maxSteps:=999999)(disch:=omega) only[f34,<-hr,eZ,a1,a2,<-u,hb,b1,i1,e2,O,zQQ]
end Go.Eng.Sh
end
section
namespace Go.Eng
theorem zFQ (a:k.ok)(o:AObj)(K:Nat->AH->Rs):VN k o K=K k.next (k.push o):=zDk a o K
theorem mx2S (a b:Nat):mx2 (.int .i64 a) (.int .i64 b)=some (.int .i64 (max a b:Nat)):=by
 by_cases h:a<b
 .have hb:ilt (a:Int) (b:Int)=true:=by rw[uS];simpa using h
  simp only[mx2,hb,zO,show max a b=b by omega]
 .have hb:ilt (a:Int) (b:Int)=false:=by rw[uS];simpa using h
  simp only[mx2,hb,qH,show max a b=a by omega]
end Go.Eng
namespace Go.Eng.Sh
open Go.Bk
theorem zKs (D:Dyn)(H:Nat)(h:Spc k n A t v):f23 D H [.ptr n 0] k=some (.int .i64 (cnt v 0 A:Nat),k):=by
 obtain⟨c,g,hl,j,c1,m,a,o,p,q⟩:=h;have r1:ld1 (.ptr n (8194+0)) k=some (.int .i64 (cnt v 0 A:Nat)):=wY g (a 0 (by omega));have f:fQ 4 1 (.ptr n 8194) (.int .u8 (0:Nat))=some (.ptr n (8194+0)):=bY 4 n 8194 .u8 0 rfl (by omega);simp(maxSteps:=999999)(disch:=omega) only[f23,eZ,cq,f,r1]
theorem Spc.la' (h:Spc k n A t v)(f:k.ok){x:Nat}(j:x<8192): ∃H',stN 1 (.ptr n 1) (.int .i64 x) k=some (jQ,H')/\Spc H' n A x v/\Stp (fun B=>B=n) k H'/\H'.next=k.next:=by
 obtain⟨c,g,hl,m,c1,p,q,nb,N,u⟩:=h;obtain⟨y,z,C,J,K⟩:=xM f g (o:=1) (x:= .int .i64 x) rfl (by omega);refine⟨y,z,⟨_,C,by simp[hl], ?_, ?_,fun i hi=> ?_,fun H a=> ?_,nb,j,u⟩,J,K⟩
 .rw[y5 (by omega)];exact m
 .rw[List.getElem?_set_self (by omega)]
 .rw[y5 (by omega)];exact p i hi
 .rw[y5 (by omega)];exact q H a
theorem zO4 (As:Dyn)(a:Nat){A:Nat}(h:Box k n (.ptr B 0))(m:Box k t (.int .u8 M))(u:Spc k B D G v):
  ∀d i H,i+d=D->d<H->match fnd v M d i with
   | none=>kI H (JM As a) [.yT A, .ptr n 0, .ptr t 0, .int .i64 ((i:Nat):Int)] k=some (.exit 0 [],k)
   | some j=> ∀H',callV [] As (.yT A) [.int .i64 j] k=some (.bool false,H')->kI H (JM As a) [.yT A, .ptr n 0, .ptr t 0, .int .i64 ((i:Nat):Int)] k=some (.ret (.tuple []),H'):=by
 obtain⟨c,g,hl,x,c1,y,J,K,N,O⟩:=id u;have r0:ld1 (.ptr B 0) k=some (.int .i64 D):=wY g x;intro d
 induction d with
 | zero=>
  intro i H hi z;obtain⟨H,rfl⟩: ∃k',H=k'+1:=⟨H - 1,by omega⟩;have A4: ¬((i:Nat):Int)< (D:Int):=by omega
  simp only[fnd];exact jW (by simp(maxSteps:=999999)(disch:=omega) only[JM,eZ,h.ld,r0,A4])
 | succ d ih=>
  intro i H hi z;obtain⟨H,rfl⟩: ∃k',H=k'+1:=⟨H - 1,by omega⟩;have A4:((i:Nat):Int)< (D:Int):=by omega
  have o:fQ 8192 1 (.ptr B 2) (.int .i64 ((i:Nat):Int))=some (.ptr B (2+i)):=bY 8192 B 2 .i64 i rfl (by omega);have p:ld1 (.ptr B (2+i)) k=some (.int .u8 (v i:Nat)):=wY g (y i (by omega));simp only[fnd];by_cases e:v i=M
  .rw[if_pos e];intro H' q;have f:((v i:Nat):Int)=(M:Int):=by omega
   exact aN (by simp(maxSteps:=999999)(disch:=omega) only[JM,eZ,h.ld,r0,A4,o,p,m.ld,f,q])
  .rw[if_neg e];have f: ¬((v i:Nat):Int)=(M:Int):=by omega
   have hi1:((i:Nat):Int)+((1:Nat):Int)=((i+1:Nat):Int):=by omega
   have C:JM As a [.yT A, .ptr n 0, .ptr t 0, .int .i64 ((i:Nat):Int)] k=some (.norm [.yT A, .ptr n 0, .ptr t 0, .int .i64 (i+1:Nat)],k):=by
    simp(maxSteps:=999999)(disch:=omega) only[JM,eZ,h.ld,r0,A4,o,p,m.ld,f,hi1]
   have:=ih (i+1) H (by omega) (by omega);rw[kX C];exact this
def ofR (is:Nat->Nat)(w nb ab:Nat):Option Nat:=if cnt is w nb=0 then none else fnd is w (nb - max (ab+1) 2) (max (ab+1) 2)
theorem zKQ (A4:Dyn)(H:Nat)(S:10000<=H){A:Nat}(h:Box k n (.ptr D 0))(m:Box k t (.int .u8 N))(o:Box k B (.int .i64 P))(u:Spc k D G M v)(x:N<4)(p:P<G)(O:2<=G):
  match ofR v N G P with
   | none=>f207 A4 H [.yT A, .ptr n 0, .ptr t 0, .ptr B 0] k=some (.tuple [],k)
   | some j=> ∀H',callV [] A4 (.yT A) [.int .i64 j] k=some (.bool false,H')->f207 A4 H [.yT A, .ptr n 0, .ptr t 0, .ptr B 0] k=some (.tuple [],H'):=by
 obtain⟨c,g,hl,T,c1,Y,J,Z,h2,h4⟩:=id u;have r1:ld1 (.ptr D (8194+N)) k=some (.int .i64 (cnt v N G:Nat)):=wY g (J N x);have q:fQ 4 1 (.ptr D 8194) (.int .u8 N)=some (.ptr D (8194+N)):=bY 4 D 8194 .u8 N rfl x;have hi1:(P:Int)+((1:Nat):Int)=((P+1:Nat):Int):=by omega
 have hm:=mx2S (P+1) 2;obtain⟨i,hi⟩: ∃i,i=max (P+1) 2:=⟨_,rfl⟩;rw[<-hi]at hm;have a:=zO4 A4 H (A:=A) h m u (G - i) i H (by omega) (by omega);simp only[ofR,<-hi];by_cases y:cnt v N G=0
 .rw[if_pos y];have f:((cnt v N G:Nat):Int)=((0:Nat):Int):=by omega
  simp(maxSteps:=999999)(disch:=omega) only[f207,eZ,h.ld,m.ld,q,r1,f]
 .rw[if_neg y];have f: ¬((cnt v N G:Nat):Int)=((0:Nat):Int):=by omega
  cases z:fnd v N (G - i) i with
  | none=>
   rw[z]at a;simp only at a⊢;simp(maxSteps:=999999)(disch:=omega) only[f207,eZ,h.ld,m.ld,q,r1,f,o.ld,hi1,hm,a,zMN]
  | some j=>
   rw[z]at a;simp only at a⊢;intro H' C;have K:=a H' C;simp(maxSteps:=999999)(disch:=omega) only[f207,eZ,h.ld,m.ld,q,r1,f,o.ld,hi1,hm,K]
def lpT (A1 A2 a:Nat):ALoop:=⟨.ready,none,195,0,[1,2,3],[.ptr A1 0, .ptr A2 0, .ptr a 0]⟩
theorem zR6 (m H:Nat)(f:k.h.get n=some (.loop (lpT A t B)))(az:List AV):callV [] (dy (m+1)) (.yT n) az k=UF (dy m) m n (lpT A t B) az k:=by
 show YP (tabR (dy m) m) n az k=_;simp only[YP,f];rfl
theorem zFy (a:Dyn)(H:Nat)(A1:k.ok)(u:k.h.get n=some (.loop (lpT A t B)))(b1:Box k A (.ptr D 0))(b2:Box k t l)(b3:Box k B F)(As:Spc k D G M v)(hj:N<G)(a7:v N=0)
  (d1:t≠B) (T:t≠D) (Y:B≠D) (d4:A≠t) (d5:A≠B):
  ∃H',UF a H n (lpT A t B) [.int .i64 N] k=some (.bool false,H')/\H'.h.get n=some (.loop { lpT A t B with state:= .done,pending:=some .ret})/\Box H' t (.int .i64 N)/\Box H' B (.int .i64 (0:Nat))/\Spc H' D G N (VL v N 2)/\Stp (fun A2=>A2=n\/A2=D\/A2=t\/A2=B) k H':=by
 obtain⟨c,O,_⟩:=id As;have J:D≠n:=fun e=>by rw[e,u]at O;cases O
 have n1:A≠n:=fun e=>by obtain⟨_,hb⟩:=b1;rw[e,u]at hb;cases hb
 have Z:t≠n:=fun e=>by obtain⟨_,hb⟩:=b2;rw[e,u]at hb;cases hb
 have n3:B≠n:=fun e=>by obtain⟨_,hb⟩:=b3;rw[e,u]at hb;cases hb
 have a8:A≠D:=fun e=>by
  obtain⟨_,hb⟩:=b1;obtain⟨_,O,hl,_⟩:=As;rw[e,O]at hb;simp only[zB,AObj.cells.injEq]at hb;rw[hb.1]at hl;simp at hl
 have h2:G<=8192:=by obtain⟨_,_,_,_,_,_,_,h,_⟩:=As;exact h
 have f:Stp (fun A2=>A2=n) k (k.put n (.loop { lpT A t B with state:= .busy})):=(zRx A1).put (A1.lt u) _ (.inr rfl);have g1:(k.put n (.loop { lpT A t B with state:= .busy})).h.get n=some (.loop { lpT A t B with state:= .busy}):=by rw[zRt,if_pos rfl]
 have a0: ∀K:AH->Rs,uV n k K=K (k.put n (.loop { lpT A t B with state:= .busy})):=fun K=>by
  simp only[uV,u,lpT,kR]
 generalize k.put n (.loop { lpT A t B with state:= .busy})=H1 at f g1 a0;have a5:=b1.mono A1 f n1;have a9:=As.stp A1 f J;obtain⟨H2,e2,b0,o,c3⟩:=zD6 a H a9 f.ok hj a7 (b:=2) (by omega) (by omega);have b4:=a5.mono f.ok o a8;obtain⟨H3,e3,b5,p,c4⟩:=b0.la' o.ok (x:=N) (by omega);have b6:=((b2.mono A1 f Z).mono f.ok o T).mono o.ok p T;obtain⟨H4,e4,b7,q⟩:=b6.st p.ok (x:= .int .i64 N) rfl;have b8:=(((b3.mono A1 f n3).mono f.ok o Y).mono o.ok p Y).mono p.ok q (fun e=>d1 e.symm);obtain⟨C,e5,b9,m⟩:=b8.st q.ok (x:= .int .i64 (0:Nat)) rfl;have lA:=A1.lt u;have N1:=f.next;have N2:=o.next;have N3:=p.next;have N4:=q.next;have N5:=m.next
 have g5:C.h.get n=some (.loop { lpT A t B with state:= .busy}):=by
  rw[m.keep _ (by omega) (fun e=>n3 e.symm),q.keep _ (by omega) (fun e=>Z e.symm),p.keep _ (by omega) (fun e=>J e.symm),o.keep _ (by omega) (fun e=>J e.symm)];exact g1
 have z:Stp (fun A2=>A2=n) C (C.put n (.loop { lpT A t B with state:= .done,pending:=some .ret})):=(zRx m.ok).put (m.ok.lt g5) _ (.inr rfl);have a6:KG n (some .ret) C=some (.bool false,C.put n (.loop { lpT A t B with state:= .done,pending:=some .ret})):=by
  simp only[KG,g5,kR,lpT]
 have c0:=b7.mono q.ok m d1;have c1:=(b5.stp p.ok q (fun e=>T e.symm)).stp q.ok m (fun e=>Y e.symm);have r2:ld1 (.ptr A 0) H2=some (.ptr D 0):=b4.ld;refine⟨_, ?_,by rw[zRt,if_pos rfl],c0.mono m.ok z Z,b9.mono m.ok z n3,c1.stp m.ok z J,⟨z.ok,by have:=z.next;omega,fun A2 hB S=> ?_⟩⟩
 .have hl:Y4 [1,2,3] (lpT A t B).live=true:=rfl;have c2:(lpT A t B).vals=[.ptr A 0, .ptr t 0, .ptr B 0]:=rfl;simp(maxSteps:=999999)(disch:=omega) only[UF,eZ,hl,c2,zO,a0,a5.ld,e2,r2,e3,e4,e5];exact a6
 .have a1: ¬A2=n:=fun e=>S (.inl e)
  have a2: ¬A2=D:=fun e=>S (.inr (.inl e))
  have a3: ¬A2=t:=fun e=>S (.inr (.inr (.inl e)))
  have a4: ¬A2=B:=fun e=>S (.inr (.inr (.inr e)))
  rw[z.keep A2 (by omega) a1,m.keep A2 (by omega) a4,q.keep A2 (by omega) a3,p.keep A2 (by omega) a2,o.keep A2 (by omega) a2,f.keep A2 hB a1]
theorem take_one (m H:Nat)(hm:10000<=m)(o:k.ok){ab:Nat}(b1:Box k n (.ptr B 0))(b2:Box k A l)(b3:Box k t F)(sp:Spc k B D G v)(b5:ab<D)(b6:2<=D)
  (d1:A≠t) (d2:A≠B) (d3:t≠B) (d4:n≠A) (d5:n≠t):
  match ofR v 0 D ab with
  | none=> ∃H',(∀(z:AH->Rs) (S:AH->Nat->Rs) (C:AH->Rs),(bR (f168 (dy (m+2)) H [.ptr B 0, .int .u8 (0:Nat), .int .i64 ab] k) fun a7 k=>VN k (.loop ⟨.ready,none,195,0,[1,2,3],[.ptr n 0, .ptr A 0, .ptr t 0]⟩) fun A1 k=>bR (rfC [(168,f168 (dy (m+2)) H),(86,f86 (dy (m+2)) H)] (dy (m+2)) a7 A1 k) fun _ k=>fU A1 k fun j k=>zEC j (z k) (S k) (C k))=z H')/\Prs k H'
  | some j=> ∃H',(∀(z:AH->Rs) (S:AH->Nat->Rs) (C:AH->Rs),(bR (f168 (dy (m+2)) H [.ptr B 0, .int .u8 (0:Nat), .int .i64 ab] k) fun a7 k=>VN k (.loop ⟨.ready,none,195,0,[1,2,3],[.ptr n 0, .ptr A 0, .ptr t 0]⟩) fun A1 k=>bR (rfC [(168,f168 (dy (m+2)) H),(86,f86 (dy (m+2)) H)] (dy (m+2)) a7 A1 k) fun _ k=>fU A1 k fun j k=>zEC j (z k) (S k) (C k))=C H')/\Box H' A (.int .i64 ((j:Nat):Int))/\Box H' t (.int .i64 (0:Nat))/\Spc H' B D j (VL v j 2)/\Stp (fun f=>f=B\/f=A\/f=t) k H':=by
 obtain⟨H1,Z,q1,p1,g1,m1,n1⟩:=box o (.cells [.ptr B 0] 36 1 false);obtain⟨H2,a0,q2,T,g2,m2,n2⟩:=box p1.ok (.cells [.int .u8 (0:Nat)] 141 1 false);obtain⟨a,a4,q3,A2,g3,m3,n3⟩:=box T.ok (.cells [.int .i64 ab] 3 1 false);have q:Prs a (a.push (.loop (lpT n A t))):=(zRx A2.ok).push _;have Y:(a.push (.loop (lpT n A t))).h.get a.next=some (.loop (lpT n A t)):=zRp _ _
 have a5: ∀K:Nat->AH->Rs,VN a (.loop ⟨.ready,none,195,0,[1,2,3],[.ptr n 0, .ptr A 0, .ptr t 0]⟩) K=K a.next (a.push (.loop (lpT n A t))):=fun K=>zFQ A2.ok _ K
 generalize a.push (.loop (lpT n A t))=H4 at q Y a5;have P3:=(p1.trans T).trans A2;have u:=P3.trans q;have N1:=p1.next;have N2:=T.next;have N3:=A2.next;have N4:=q.next
 have l1:=b1.lt o;have l2:=b2.lt o;have l3:=b3.lt o;have lS:=sp.lt o;have c3:Box H4 Z (.ptr B 0):=⟨_,zRB ((T.trans A2).trans q) p1.ok g1⟩;have c4:Box H4 a0 (.int .u8 (0:Nat)):=⟨_,zRB (A2.trans q) T.ok g2⟩;have c5:Box H4 a4 (.int .i64 ab):=⟨_,zRB q A2.ok g3⟩;have b0:=sp.stp o u (fun l=>l);have J:=zKQ (dy (m+1)) (m+1) (by omega) (A:=a.next) c3 c4 c5 b0 (by omega) b5 b6
 have a9:f168 (dy (m+2)) H [.ptr B 0, .int .u8 (0:Nat), .int .i64 ab] k=some (.func 207 [] [.ptr Z 0, .ptr a0 0, .ptr a4 0],a):=by
  simp only[f168,eZ,cbx,q1,q2,q3]
 cases hr:ofR v 0 D ab with
 | none=>
  rw[hr]at J;simp only at J⊢;have p:Stp (fun f=>f=a.next) H4 (H4.put a.next .dead):=(zRx q.ok).put (q.ok.lt Y) _ (.inr rfl)
  have a6: ∀K:Option Code->AH->Rs,fU a.next H4 K=K none (H4.put a.next .dead):=fun K=>by
   simp only[fU,Y,lpT,kR]
  have a8:rfC [(168,f168 (dy (m+2)) H),(86,f86 (dy (m+2)) H)] (dy (m+2)) (.func 207 [] [.ptr Z 0, .ptr a0 0, .ptr a4 0]) a.next H4=some (.tuple [],H4):=J
  refine⟨_,fun z S C=> ?_,u.fresh p fun f hB=>by omega⟩;simp only[a9,bR,a5,a8,a6,zEC]
 | some j=>
  rw[hr]at J;simp only at J⊢;have hj:j<D/\v j=0:=by
   simp only[ofR]at hr;split at hr
   .cases hr
   .obtain⟨h1,h2,h3⟩:=KF hr;exact⟨by omega,h3⟩
  obtain⟨N,e5,g5,b7,b8,b9,p⟩:=zFy (dy m) m u.ok Y (b1.mono o u (fun l=>l)) (b2.mono o u (fun l=>l)) (b3.mono o u (fun l=>l)) b0 hj.1 hj.2 d1 d2 d3 d4 d5;have b4:=J N ((zR6 m (m+1) Y _).trans e5);have a8:rfC [(168,f168 (dy (m+2)) H),(86,f86 (dy (m+2)) H)] (dy (m+2)) (.func 207 [] [.ptr Z 0, .ptr a0 0, .ptr a4 0]) a.next H4=some (.tuple [],N):=b4
  have O:Stp (fun f=>f=a.next) N (N.put a.next .dead):=(zRx p.ok).put (p.ok.lt g5) _ (.inr rfl)
  have a6: ∀K:Option Code->AH->Rs,fU a.next N K=K (some .ret) (N.put a.next .dead):=fun K=>by
   simp only[fU,g5,lpT,kR]
  have N5:=p.next;have N6:=O.next
  refine⟨_,fun z S C=> ?_,b7.mono p.ok O (by omega),b8.mono p.ok O (by omega),b9.stp p.ok O (by omega),⟨O.ok,by omega,fun f hB hS=> ?_⟩⟩
  .simp only[a9,bR,a5,a8,a6,zEC]
  .have a1: ¬f=B:=fun e=>hS (.inl e)
   have a2: ¬f=A:=fun e=>hS (.inr (.inl e))
   have a3: ¬f=t:=fun e=>hS (.inr (.inr e))
   rw[O.keep f (by omega) (by omega),p.keep f (by omega) (fun e=>by rcases e with e | e | e | e<;>omega),u.keep f hB (fun l=>l)]
theorem zKk (m As:Nat)(hm:10000<=m)(hn:100<=As)(O:k.ok)(S:Spc k n A t v)(a2:t<A)(a0:2<=A)(h0:v 0≠0)(T:v 1≠0)(hf:0<cnt v 0 A):
  ∃H' j,f195 (dy (m+2)) As [.ptr n 0] k=some (.tuple [.int .i64 ((j:Nat):Int), .int .i64 (0:Nat)],H')/\2<=j/\j<A/\v j=0/\Spc H' n A j (VL v j 2)/\Stp (fun B=>B=n) k H':=by
 obtain⟨c,g,hl,c0,c1,hc,a7,q1,q2,q3⟩:=id S;obtain⟨H1,A1,b1,C,g1,m1,n1⟩:=box O (.cells [.ptr n 0] 36 1 false);obtain⟨H2,A2,b2,u,g2,m2,n2⟩:=box C.ok (.cells [.int .i64 (0:Nat)] 3 1 false);obtain⟨q,y,b3,J,g3,m3,n3⟩:=box u.ok (.cells [.int .i64 (0:Nat)] 32 1 false);have a:=(C.trans u).trans J;have N1:=C.next;have N2:=u.next;have N3:=J.next
 have lS:=S.lt O;have K:=S.stp O a (fun x=>x);have o:Box q A1 (.ptr n 0):=⟨_,zRB (u.trans J) C.ok g1⟩;have x2:Box q A2 (.int .i64 (0:Nat)):=⟨_,zRB J u.ok g2⟩;have x3:Box q y (.int .i64 (0:Nat)):=⟨_,g3⟩;have rl:ld1 (.ptr n 1) q=some (.int .i64 t):=by
  obtain⟨c',g',_,_,a3,_⟩:=K;exact wY g' a3
 have a1:zLI 1 [.int .i64 (0:Nat), .int .i64 (0:Nat)] [(0, .int .i64 t),(1, .int .i64 (0:Nat))]=some (.agg [.int .i64 t, .int .i64 (0:Nat)]):=rfl;have i0:zC0 2 1 (.agg [.int .i64 t, .int .i64 (0:Nat)]) (.int .i64 (0:Nat))=some (.int .i64 t):=rfl;have i1:zC0 2 1 (.agg [.int .i64 t, .int .i64 (0:Nat)]) (.int .i64 (1:Nat))=some (.int .i64 (0:Nat)):=rfl;have t0:((0:Nat):Int)< ((2:Nat):Int):=by omega
 have t1:((1:Nat):Int)< ((2:Nat):Int):=by omega
 have a4:((0:Nat):Int)+((1:Nat):Int)=((1:Nat):Int):=by omega
 obtain⟨H,rfl⟩: ∃H,As=H+1+1:=⟨As - 2,by omega⟩;have nb:=take_one m (H+1+1) hm a.ok o x2 x3 K a2 a0 (by omega) (by omega) (by omega) (by omega) (by omega)
 cases hr:ofR v 0 A t with
 | some j=>
  rw[hr]at nb;simp only at nb;obtain⟨z,Y,Z,y3,a5,s4⟩:=nb;have p:2<=j/\j<A/\v j=0:=by
   simp only[ofR]at hr;split at hr
   .cases hr
   .obtain⟨T,h2,h3⟩:=KF hr;exact⟨by omega,by omega,h3⟩
  refine⟨z,j, ?_,p.1,p.2.1,p.2.2,a5,⟨s4.ok,by have:=s4.next;omega,fun B hB hS=> ?_⟩⟩
  .have l0:JN (dy (m+2)) (H+1+1) [.ptr A1 0, .ptr A2 0, .ptr y 0, .agg [.int .i64 t, .int .i64 (0:Nat)], .int .i64 (0:Nat)] q=some (.ret (.tuple [.int .i64 ((j:Nat):Int), .int .i64 (0:Nat)]),z):=by
    simp(maxSteps:=999999)(disch:=omega) only[JN,eZ,t0,i0,o.ld,Y,Z.ld,y3.ld]
   simp(maxSteps:=999999)(disch:=omega) only[f195,eZ,cbx,cq,b1,b2,b3,o.ld,rl,a1,aN l0]
  .rw[s4.keep B (by omega) (fun e=>by rcases e with e | e | e<;>first | omega | exact hS e),a.keep B hB (fun x=>x)]
 | none=>
  rw[hr]at nb;simp only at nb;obtain⟨z,Y,h⟩:=nb;have N4:=h.next
  have o2:=take_one m (H+1+1) hm h.ok (o.mono a.ok h (fun x=>x)) (x2.mono a.ok h (fun x=>x)) (x3.mono a.ok h (fun x=>x)) (K.stp a.ok h (fun x=>x)) (ab:=0) (by omega) a0 (by omega) (by omega) (by omega) (by omega) (by omega)
  cases f:ofR v 0 A 0 with
  | none=>
   exfalso;simp only[ofR]at f;rw[if_neg (by omega)]at f;obtain⟨i,hi,N⟩:=zN6 hf;have:i≠0/\i≠1:=⟨fun e=>h0 (e▸N),fun e=>T (e▸N)⟩;exact zEI f i (by omega) (by omega) N
  | some j=>
   rw[f]at o2;simp only at o2;obtain⟨H5,e5,Z,y3,a6,s5⟩:=o2;have p:2<=j/\j<A/\v j=0:=by
    simp only[ofR]at f;split at f
    .cases f
    .obtain⟨T,h2,h3⟩:=KF f;exact⟨by omega,by omega,h3⟩
   refine⟨H5,j, ?_,p.1,p.2.1,p.2.2,a6,⟨s5.ok,by have:=s5.next;omega,fun B hB hS=> ?_⟩⟩
   .have l0:JN (dy (m+2)) (H+1+1) [.ptr A1 0, .ptr A2 0, .ptr y 0, .agg [.int .i64 t, .int .i64 (0:Nat)], .int .i64 (0:Nat)] q=some (.norm [.ptr A1 0, .ptr A2 0, .ptr y 0, .agg [.int .i64 t, .int .i64 (0:Nat)], .int .i64 (1:Nat)],z):=by
     simp(maxSteps:=999999)(disch:=omega) only[JN,eZ,t0,i0,o.ld,Y,a4]
    have l1:JN (dy (m+2)) (H+1+1) [.ptr A1 0, .ptr A2 0, .ptr y 0, .agg [.int .i64 t, .int .i64 (0:Nat)], .int .i64 (1:Nat)] z=some (.ret (.tuple [.int .i64 ((j:Nat):Int), .int .i64 (0:Nat)]),H5):=by
     simp(maxSteps:=999999)(disch:=omega) only[JN,eZ,t1,i1,(o.mono a.ok h (fun x=>x)).ld,e5,Z.ld,y3.ld]
    simp(maxSteps:=999999)(disch:=omega) only[f195,eZ,cbx,cq,b1,b2,b3,o.ld,rl,a1,kX l0,aN l1]
   .rw[s5.keep B (by omega) (fun e=>by rcases e with e | e | e<;>first | omega | exact hS e),h.keep B (by omega) (fun x=>x),a.keep B hB (fun x=>x)]
end Go.Eng.Sh
end
section
namespace Go.Bk
end Go.Bk
namespace Go.Eng.Sh
open Go.Bk
open Go.Nd (Ptr Str)
theorem zR9 (D:Dyn)(H:Nat)(t:1000<=H)(N:k.ok)(kind:UInt8){at_:Nat}(ha:1<=at_)(a0:at_<8192)(hb:n<=2147483647){body:Str}(hl:body.length<=500):
  ∃H',f196 D H [.int .i64 at_, .agg (jO (sealB kind n body))] k=some (.tuple [.agg (jS (fJ at_ n (sealB kind n body))), .int .i64 (0:Nat)],H')/\Prs k H':=by
 obtain⟨B,m⟩: ∃B,B=sealB kind n body:=⟨_,rfl⟩;have h:=sealB_len (kind:=kind) (birth:=n) hl;rw[<-m]at h;obtain⟨H1,A3,b1,o,O,m1,n1⟩:=box N (.cells (jO B) 55 1 false);obtain⟨H2,A4,b2,a,S,m2,n2⟩:=box o.ok (.cells [.int .i64 (0:Nat), .int .i64 (0:Nat), .int .u64 (0:Nat)] 42 1 false);have q:=zRB a o.ok O;obtain⟨H3,u,f⟩:=zHS D H t a.ok kind hb hl;rw[<-m]at u⊢;obtain⟨T,Y,j⟩:=zJA D H t f.ok h;have x:=zRB (f.trans j) a.ok S;have y:=zRB f a.ok q;obtain⟨p,Z,g5,s5,n5⟩:=jV j.ok x (l':=jS (fJ at_ n B)) rfl rfl;have z:stN 3 (.ptr A4 0) (.agg (jS (fJ at_ n B))) T=some (jQ,p):=Z;have r3:=ldR q h;have C:=ldR y h;have r5:ldN 3 (.ptr A4 0) p=some (.agg (jS (fJ at_ n B))):=xB g5 rfl;have J: ¬(((0:Nat):Int)≠((0:Nat):Int)):=by omega
 have t1: ¬(at_:Int)< ((1:Nat):Int):=by omega
 have t2: ¬((8192:Nat):Int)<=(at_:Int):=by omega
 have K:uB [(0,1),(1,1),(2,1)] [.int .i64 (0:Nat), .int .i64 (0:Nat), .int .u64 (0:Nat)] [(0, .int .i64 at_),(1, .int .i64 n),(2, .int .u64 (U6 B:Nat))]=some (.agg (jS (fJ at_ n B))):=rfl;have N2:=a.next;have N3:=f.next;have N4:=j.next
 refine⟨p, ?_,(((o.trans a).trans f).trans j).fresh s5 fun B m=>by omega⟩;simp(maxSteps:=999999)(disch:=omega) only[f196,eZ,b1,b2,r3,u,jN,nth,J,t1,t2,C,Y,K,z,r5]
structure Wr (E:Ev)(H:AH)(Aw As At M Ad:Nat)(c:AV)(txg left la:Nat)(is:Nat->Nat)(root:Ptr)(es:List (AV×AV))(q:PN)(last:Nat)(dr:AV)(Z P:Nat->Prop):Prop where
 ti:TI E H At M (.ptr Ad 0) c root es q last dr
 sp:Spc H As E.nb la is
 few:E.ws.length+cnt is 0 E.nb<=990000
 gw: ∃On Nw wv ds tv ov nt tl ol,DkI H Ad E.nb E.ws On Nw wv ds/\H.h.get Aw=some (.cells [.ptr At 0, .ptr As 0, .int .i64 txg, .int .i64 left,tv,ov] 198 1 false)/\Own 1 3 H tv nt tl/\Own 513 202 H ov nt ol/\nt<=E.ws.length/\(∀B,Z B↔B=Aw\/B=As\/B=Ad\/B=Nw\/Blk wv B\/Blk tv B\/Blk ov B)/\ ¬Z On
 pr: ∀B,P B-> ¬Z B
 pa: ∀B,P B↔B=At\/B=M\/Blk dr B\/ ∃kv∈es,xT kv.2 B
 bd:2<=la\/la=0
 nb:64<=E.nb/\E.nb<=8192/\la<E.nb
 s0:is 0≠0/\is 1≠0
 lf:left<=1000000000
theorem Wr.lt {E:Ev}{H:AH}{Aw As At M Ad:Nat}{c:AV}{txg left la:Nat}{is:Nat->Nat}{root:Ptr}{es:List (AV×AV)}{q:PN}{h:Nat}{j:AV}{Z P:Nat->Prop}(w:Wr E H Aw As At M Ad c txg left la is root es q h j Z P): ∀B,Z B->B<H.next:=by
 obtain⟨x,y,z,C,J,K,nt,N,O,f,m,o,p,_,t,_⟩:=w.gw;have a:=w.ti.ok;intro B u;rcases(t B).1 u with rfl | rfl | rfl | rfl | e | e | e
 .exact a.lt m
 .exact w.sp.lt a
 .exact a.lt f.gD
 .exact a.lt f.gN
 .exact Own.lt f.ow e
 .exact Own.lt o e
 .exact Own.lt p e
theorem Wr.prs {E:Ev}{H H':AH}{Aw As At M Ad:Nat}{c:AV}{txg left la:Nat}{is:Nat->Nat}{root:Ptr}{es:List (AV×AV)}{q:PN}{a:Nat}{f:AV}{Z P:Nat->Prop}(w:Wr E H Aw As At M Ad c txg left la is root es q a f Z P)(s:Prs H H'):Wr E H' Aw As At M Ad c txg left la is root es q a f Z P:=by
 obtain⟨h,j,m,o,p,t,nt,u,y,z,C,J,K,N,O,S⟩:=w.gw;exact⟨w.ti.prs s,w.sp.stp w.ti.ok s fun x=>x,w.few,⟨h,j,m,o,p,t,nt,u,y,z.prs w.ti.ok s,zRB s w.ti.ok C,J.mono s fun _ _ x=>x,K.mono s fun _ _ x=>x,N,O,S⟩,w.pr,w.pa,w.bd,w.nb,w.s0,w.lf⟩
theorem TI.wr {E:Ev}{H H':AH}{At M Ad:Nat}{root:Ptr}{es:List (AV×AV)}{q:PN}{m:Nat}{h:AV}{Z:Nat->Prop}(a:TI E H At M (.ptr Ad 0) .nP root es q m h)(s:Stp Z H H')(f: ∀B,(B=At\/B=M\/Blk h B\/ ∃kv∈es,xT kv.2 B)-> ¬Z B){ws:Ws}{p t:Nat}{u:AV}{x:List (AV×AV)}(y:DkI H' Ad E.nb ws p t u x):TI { E with ws:=ws} H' At M (.ptr Ad 0) .nP root es q m h:=
 ⟨s.ok,by rw[s.keep _ (a.ok.lt a.gT) (f _ (.inl rfl))];exact a.gT,by rw[s.keep _ (a.ok.lt a.gM) (f _ (.inr (.inl rfl)))];exact a.gM,a.pq.frame fun kv o nd z=>z.stp s fun A j=>f _ (.inr (.inr (.inr ⟨kv,o,j⟩))),⟨_,_,_,_,_,rfl,y⟩, .inl rfl,a.dg.mono s fun A j=>f _ (.inr (.inr (.inl j))),a.ds,a.few,fun B C=>qG (a.xl B C) s.next⟩
theorem uP.old {H:AH} : ∀ {es:List (AV×AV)} {q:PN},uP H es q-> ∀kv∈es,∀B,xT kv.2 B->B<H.next
 | [],[],_=>fun _ h=>by simp at h
 | (k,v)::es,(s,nd)::q,h=>fun kv a B f=>by
  rcases zK.1 a with rfl | a
  .exact h.1.2.lt f
  .exact uP.old h.2 kv a B f
 | [],_::_,h=>h.elim
 | _::_,[],h=>h.elim
theorem Wr.old {E:Ev}{H:AH}{Aw As At M Ad:Nat}{c:AV}{txg left la:Nat}{is:Nat->Nat}{root:Ptr}{es:List (AV×AV)}{q:PN}{a:Nat}{h:AV}{Z P:Nat->Prop}(w:Wr E H Aw As At M Ad c txg left la is root es q a h Z P): ∀B,P B->B<H.next:=fun B j=>by
 rcases(w.pa B).1 j with rfl | rfl | e | ⟨kv,f,e⟩
 .exact w.ti.ok.lt w.ti.gT
 .exact w.ti.ok.lt w.ti.gM
 .exact w.ti.dg.lt e
 .exact w.ti.pq.old kv f B e
theorem Spc.bk (h:Spc k n A t v): ∃c,k.h.get n=some (.cells c 145 1 false):=by
 obtain⟨c,g,_⟩:=h;exact⟨c,g⟩
theorem kC {o p:AObj}(h:k.h.get n=some o)(H:k.h.get A=some p)(e:o≠p):n≠A:=fun x=>by
 rw[x,H]at h;exact e (qT h).symm
theorem zNg (la n:Nat)(hm:10000<=la)(hn:1000<=n)(w:Wr U k A t B D G .nP M N P v q H p R l i J)
  (kind:UInt8)  (hb:m<=2147483647) {body:Str} (hl:body.length<=500) (hf:0<cnt v 0 U.nb):
  ∃H' j Z',zQS (dy (la+2)) n [.ptr A 0, .agg (jO (sealB kind m body))] k=some (.tuple [.agg (jS (fJ j m (sealB kind m body))), .int .i64 (0:Nat)],H')/\2<=j/\j<U.nb/\v j=0/\
   Wr { U with ws:=U.ws++[(j,sealB kind m body)] } H' A t B D G .nP M N j (VL v j 2) q H p R l Z' J/\AdT i k Z' H':=by
 obtain⟨b,a⟩: ∃b,b=sealB kind m body:=⟨_,rfl⟩;have a3:=sealB_len (kind:=kind) (birth:=m) hl;rw[<-a]at a3;obtain⟨On,left,wv,ds,S,T,nt,tl,ol,f,As,ot,Y,k4,hZ,hO⟩:=w.gw;have txg:=w.ti.ok;obtain⟨sc,gS⟩:=w.sp.bk;obtain⟨f3,f4,f5⟩:=w.nb;have a7:A≠t:=fun e=>by
  obtain⟨c,g,l8,_⟩:=w.sp;rw[<-e,As]at g;simp only[zB,AObj.cells.injEq]at g;rw[<-g.1]at l8;simp at l8
 have a8:A≠G:=kC As f.gD (by simp);have a9:A≠left:=kC As f.gN (by simp);have b0:A≠On:=kC As f.gO (by simp);have b3: ¬Blk wv A:=fun h=>kC As (f.ow.get h) (by simp) rfl
 have f6: ¬Blk S A:=fun h=>kC As (zRG ot h) (by simp) rfl
 have c3: ¬Blk T A:=fun h=>kC As (zRG Y h) (by simp) rfl
 have c4:t≠G:=kC gS f.gD (by simp);have c5:t≠left:=kC gS f.gN (by simp);have c6:t≠On:=kC gS f.gO (by simp);have c7: ¬Blk wv t:=fun h=>kC gS (f.ow.get h) (by simp) rfl
 have c8: ¬Blk S t:=fun h=>kC gS (zRG ot h) (by simp) rfl
 have c9: ¬Blk T t:=fun h=>kC gS (zRG Y h) (by simp) rfl
 have f7: ¬Blk S G:=fun h=>kC f.gD (zRG ot h) (by simp) rfl
 have d0: ¬Blk T G:=fun h=>kC f.gD (zRG Y h) (by simp) rfl
 have f8: ¬Blk S left:=fun h=>kC f.gN (zRG ot h) (by simp) rfl
 have d1: ¬Blk T left:=fun h=>kC f.gN (zRG Y h) (by simp) rfl
 have f9: ¬Blk S On:=fun h=>kC f.gO (zRG ot h) (by simp) rfl
 have g0: ¬Blk T On:=fun h=>kC f.gO (zRG Y h) (by simp) rfl
 have g3: ∀At,Blk wv At-> ¬Blk S At:=fun At h E=>kC (f.ow.get h) (zRG ot E) (by simp) rfl
 have d2: ∀At,Blk wv At-> ¬Blk T At:=fun At h E=>kC (f.ow.get h) (zRG Y E) (by simp) rfl
 have g5: ∀At,Blk S At-> ¬Blk T At:=fun At h E=>kC (zRG ot h) (zRG Y E) (by simp) rfl
 have zA:i A:=(hZ A).2 (.inl rfl);have zS:i t:=(hZ t).2 (.inr (.inl rfl));have zD:i G:=(hZ G).2 (.inr (.inr (.inl rfl)));have zN:i left:=(hZ left).2 (.inr (.inr (.inr (.inl rfl))));have zw: ∀At,Blk wv At->i At:=fun At h=>(hZ At).2 (.inr (.inr (.inr (.inr (.inl h)))))
 have zt: ∀At,Blk S At->i At:=fun At h=>(hZ At).2 (.inr (.inr (.inr (.inr (.inr (.inl h))))))
 have zo: ∀At,Blk T At->i At:=fun At h=>(hZ At).2 (.inr (.inr (.inr (.inr (.inr (.inr h))))))
 obtain⟨H1,A3,b1,p1,g1,m1,n1⟩:=box txg (.cells (jO b) 55 1 false);obtain⟨H2,A4,b2,p2,g2,m2,n2⟩:=box p1.ok (.cells [.int .i64 (0:Nat), .int .i64 (0:Nat), .int .u64 (0:Nat)] 42 1 false);have P2:=p1.trans p2;have N1:=p1.next;have N2:=p2.next
 have zl:=w.lt;obtain⟨H3,j,e3,j2,jn,j0,g7,K⟩:=zKk la n hm (by omega) p2.ok (w.sp.stp txg P2 (fun x=>x)) f5 (by omega) w.s0.1 w.s0.2 hf;have N3:=K.next
 have d3: ∀ {Aw:Nat} {o:AObj},k.h.get Aw=some o->Aw≠t->H3.h.get Aw=some o:=fun {Aw o} g h=>by
  rw[K.keep Aw (by have:=txg.lt g;omega) h];exact zRB P2 txg g
 have d4:=d3 As a7;have g9:Own 1 3 H3 S nt tl:=(ot.mono P2 fun _ _ x=>x).mono K fun At a e=>c8 (e▸a)
 obtain⟨H4,A5,b4,Ad,g4,m4,n4⟩:=box K.ok (.cells [.int .i64 ((j:Nat):Int)] 3 1 false);have N4:=Ad.next
 have e2:srcOf 1 (.slice A5 0 1 2) H4=some (1,[.int .i64 ((j:Nat):Int)]):=by simp only[srcOf,g4];rfl
 have k5:=w.few;have k6:=f.few;obtain⟨H5,e5,h0,s5,n5⟩:=gK (bytes:=8) (m:=1) Ad.ok (by decide) (g9.mono Ad fun _ _ x=>x) e2 rfl rfl (by omega) (by omega) (by decide);have N5:=s5.next
 have h4:=zRB Ad K.ok d4;have h5:H5.h.get A=_:=(s5.keep _ (by have:=txg.lt As;omega) f6).trans h4;obtain⟨H6,e6,g6,s6,n6⟩:=xM s5.ok h5 (o:=4) (x:= .slice H4.next 0 (nt+1) 1) rfl (by simp)
 have N6:=s6.next
 have a6: ∀ {Aw:Nat} {o:AObj},k.h.get Aw=some o->Aw≠t->Aw≠A-> ¬Blk S Aw->H6.h.get Aw=some o:=fun {Aw o} g h1 h2 h3=>by
  have:=txg.lt g;rw[s6.keep Aw (by omega) h2,s5.keep Aw (by omega) h3];exact zRB Ad K.ok (d3 g h1)
 have h6:DkI H6 G U.nb U.ws On left wv ds:=by
  refine⟨a6 f.gD c4.symm a8.symm f7,a6 f.gO c6.symm b0.symm f9,a6 f.gN c5.symm a9.symm f8, ?_,f.nw,f.ln,f.few,f.ne⟩;exact((((f.ow.mono P2 fun _ _ x=>x).mono K fun At a e=>c7 (e▸a)).mono Ad fun _ _ x=>x).mono s5 fun At a E=>g3 At a E).mono s6 fun At a e=>b3 (e▸a)
 obtain⟨H7,b5,d5,e7,h7,z,a4⟩:=zGb (dy (la+2)) n s6.ok h6 jn a3 (by omega);have N7:=z.next
 have d6:H6.h.get A=_:=g6;have d7:H7.h.get A=_:=(z.keep _ (by have:=txg.lt As;omega) (fun e=>by rcases e with e | e | e;exact a8 e;exact a9 e;exact b3 e)).trans d6;obtain⟨Z0,d8⟩: ∃Z0:Str,Z0=List.replicate 512 0:=⟨_,rfl⟩;have h8:rep 512 [AV.int .u8 (0:Nat)]=jO Z0:=by rw[ZM,d8]
 have h9:(jO Z0).length=512:=by rw[jT,d8];exact List.length_replicate
 have b6:(jO b).length=512:=by rw[jT,a3]
 obtain⟨q1,q2⟩:=zJB 202 (x:= .int .i64 ((j:Nat):Int)) (c:= .int .i64 (0:Nat)) h9 b6 rfl;obtain⟨H8,A6,b8,O,g8,m8,n8⟩:=box z.ok (.cells (.int .i64 ((j:Nat):Int)::jO b) 202 513 false);have N8:=O.next
 have e4:srcOf 513 (.slice A6 0 1 2) H8=some (1,wV (j,b)):=by
  have i0:bF (AV.int .i64 ((j:Nat):Int)::jO b) 0 (1*513)=some (wV (j,b)):=by
   rw[wC _ _ _ (.inr (by simp[b6])),yM,zY (by simp[b6])];rfl
  simp only[srcOf,g8,i0]
 have i1:Own 513 202 H6 T nt ol:=((((Y.mono P2 fun _ _ x=>x).mono K fun At a e=>c9 (e▸a)).mono Ad fun _ _ x=>x).mono s5 fun At a E=>g5 At E a).mono s6 fun At a e=>c3 (e▸a)
 have i2:Own 513 202 H7 T nt ol:=i1.mono z fun At a e=>by
  rcases e with e | e | e
  .exact d0 (e▸a)
  .exact d1 (e▸a)
  .exact d2 At e a
 have i3:jP (wV (j,b))=true:=by
  have:=bytesV_cells b;simp only[wV,jP,this];rfl
 obtain⟨H9,e9,i4,s9,n9⟩:=gK (bytes:=520) (m:=1) O.ok (by decide) (i2.mono O fun _ _ x=>x) e4 (by rw[zDT a3]) i3 (by omega) (by omega) (by decide);have N9:=s9.next
 have i5:H9.h.get A=_:=(s9.keep _ (by have:=txg.lt As;omega) c3).trans (zRB O z.ok d7);obtain⟨i6,i7,i8,y,k7⟩:=xM s9.ok i5 (o:=5) (x:= .slice H8.next 0 (nt+1) 1) rfl (by simp)
 have k8:=y.next
 obtain⟨i9,d9,C⟩:=zR9 (dy (la+2)) n hn y.ok kind (at_:=j) (by omega) (by omega) hb hl;rw[<-a]at d9;have k9:=C.next
 have e0: ∀ {Aw:Nat} {o:AObj},H2.h.get Aw=some o->k.next<=Aw->H6.h.get Aw=some o:=fun {Aw o} g h=>by
  have:=p2.ok.lt g;rw[s6.keep Aw (by omega) (by have:=txg.lt As;omega),s5.keep Aw (by omega) (fun a=>by have:=Own.lt ot a;omega),Ad.keep Aw (by omega) (fun x=>x),K.keep Aw (by omega) (by have:=txg.lt gS;omega)];exact g
 have b7:=e0 (zRB p2 p1.ok g1) (by omega);have j1:=e0 g2 (by omega);have z6: ∀At,(At=G\/At=left\/Blk wv At)->At<k.next:=fun At a=>by
  rcases a with e | e | e
  .exact zl At (e▸zD)
  .exact zl At (e▸zN)
  .exact zl At (zw At e)
 have e1: ∀ {Aw:Nat} {o:AObj},H6.h.get Aw=some o->k.next<=Aw->Aw<H3.next->i6.h.get Aw=some o:=fun {Aw o} g h h3=>by
  rw[y.keep Aw (by omega) (by have:=txg.lt As;omega),s9.keep Aw (by omega) (fun a=>by have:=Own.lt Y a;omega),O.keep Aw (by omega) (fun x=>x),z.keep Aw (by omega) (fun a=>by have:=z6 Aw a;omega)];exact g
 have c1:=e1 b7 (by omega) (by omega);have e8:=zRB C y.ok (e1 j1 (by omega) (by omega));obtain⟨a5,j3,j4,a0,l0⟩:=jV C.ok e8 (l':=jS (fJ j m b)) rfl rfl;have f1:stN 3 (.ptr A4 0) (.agg (jS (fJ j m b))) i9=some (jQ,a5):=j3;have l1:=a0.next
 have j5:ldN 3 (.ptr A4 0) a5=some (.agg (jS (fJ j m b))):=xB j4 rfl;have j6:=ldR b7 a3;have l2:H9.h.get A3=some (.cells (jO b) 55 1 false):=by
  rw[<-y.keep A3 (by omega) (by have:=txg.lt As;omega)];exact c1
 have j7:H7.h.get A3=some (.cells (jO b) 55 1 false):=by
  rw[z.keep A3 (by omega) (fun a=>by have:=z6 A3 a;omega)];exact b7
 have f2:=ldR c1 a3;have j8:=ldR j7 a3;have j9:=zRB P2 txg As;have w1:Eng.ld1 (.ptr A 1) H2=some (.ptr t 0):=by rw[jM j9];rfl
 have w4:Eng.ld1 (.ptr A 4) H3=some S:=by rw[jM d4];rfl
 have w0:Eng.ld1 (.ptr A 0) H6=some (.ptr B 0):=by rw[jM d6];rfl
 have w5:Eng.ld1 (.ptr A 5) H7=some T:=by rw[jM d7];rfl
 have b9:J B:=(w.pa B).2 (.inl rfl);have k0:H6.h.get B=_:=a6 w.ti.gT (fun e=>w.pr B b9 (e▸zS)) (fun e=>w.pr B b9 (e▸zA)) (fun e=>w.pr B b9 (zt B e));have wT:Eng.ld1 (.ptr B 0) H6=some (.ptr G 0):=by rw[jM k0];rfl
 have k3: ¬(((0:Nat):Int)≠((0:Nat):Int)):=by omega
 refine⟨a5,j,fun At=>At=A\/At=t\/At=G\/At=left\/Blk b5 At\/Blk (.slice H4.next 0 (nt+1) 1) At\/Blk (.slice H8.next 0 (nt+1) 1) At, ?_,j2,jn,j0, ?_, ?_⟩
 .rw[<-a];simp(maxSteps:=999999)(disch:=omega) only[zQS,eZ,b1,b2,w1,e3,jN,nth,k3,w4,zNL 3 (.int .i64 (0:Nat)) (show isCell (.int .i64 ((j:Nat):Int))=true from rfl),b4,e5,e6,w0,wT,j6,e7,w5,j8,h8,qF,qW,q1,q2,b8,e9,i7,f2,d9,f1,j5]
 ·
  have l3:=txg.lt As;have l4:=txg.lt gS;have c2:DkI a5 G U.nb (U.ws++[(j,sealB kind m body)]) On left b5 d5:=by
   rw[<-a];have lD:=zl G zD;have lN:=zl left zN;have lO:=txg.lt f.gO;refine((((h7.prs z.ok O).stp O.ok s9 d0 g0 d1 fun At hb hx=> ?_).stp s9.ok y a8.symm b0.symm a9.symm fun At hb hx=> ?_).prs y.ok C).stp C.ok a0 (by omega) (by omega) (by omega) fun At hb hx=> ?_
   .rcases a4 At hb with x | x
    .exact d2 At x hx
    .have:=Own.lt Y hx;omega
   .rcases a4 At hb with x | x
    .exact b3 (hx▸x)
    .omega
   .rcases a4 At hb with x | x
    .have:=zl At (zw At x);omega
    .omega
  have st:Stp i k a5:=⟨a0.ok,by omega,fun At a u=>by
   have a1:At≠A:=fun e=>u (e▸zA)
   have a2:At≠t:=fun e=>u (e▸zS)
   rw[a0.keep At (by omega) (by omega),C.keep At (by omega) (fun x=>x),y.keep At (by omega) a1,s9.keep At (by omega) (fun h=>u (zo At h)),O.keep At (by omega) (fun x=>x),z.keep At (by omega) (fun h=>by rcases h with e | e | e;exact u (e▸zD);exact u (e▸zN);exact u (zw At e)),s6.keep At (by omega) a1,s5.keep At (by omega) (fun h=>u (zt At h)),Ad.keep At (by omega) (fun x=>x),K.keep At (by omega) a2,P2.keep At a (fun x=>x)]⟩
  obtain⟨k1,k2⟩:=(zAM (b:=2) j0 (by omega) (n:=U.nb)).1 jn;refine⟨w.ti.wr st (fun At a=>w.pr At ((w.pa At).2 a)) c2, ?_, ?_,⟨On,left,b5,d5,_,_,nt+1,tl++[.int .i64 ((j:Nat):Int)],ol++wV (j,b),c2, ?_, ?_, ?_, ?_,fun At=>Iff.rfl, ?_⟩,fun At a hx=> ?_,w.pa, .inl j2,⟨f3,f4,jn⟩, ?_,w.lf⟩
  .refine((((((((g7.stp K.ok Ad fun x=>x).stp Ad.ok s5 c8).stp s5.ok s6 a7.symm).stp s6.ok z fun e=> ?_).stp z.ok O fun x=>x).stp O.ok s9 c9).stp s9.ok y a7.symm).stp y.ok C fun x=>x).stp C.ok a0 (by omega);rcases e with e | e | e
   .exact c4 e
   .exact c5 e
   .exact c7 e
  .simp only[zV,yX];omega
  .rw[a0.keep A (by omega) (by omega)];exact zRB C y.ok i8
  .refine((((((h0.mono s6 fun At hb e=> ?_).mono z fun At hb e=> ?_).mono O fun _ _ x=>x).mono s9 fun At hb e=> ?_).mono y fun At hb e=> ?_).mono C fun _ _ x=>x).mono a0 fun At hb e=> ?_
   all_goals rw[zRu.1 hb]at e
   .omega
   .have:=z6 _ e;omega
   .have:=Own.lt Y e;omega
   .omega
   .omega
  .refine((i4.mono y fun At hb e=> ?_).mono C fun _ _ x=>x).mono a0 fun At hb e=> ?_
   all_goals rw[zRu.1 hb]at e;omega
  .simp only[zV,yX];omega
  .intro h;have lO:=txg.lt f.gO;rcases h with e | e | e | e | e | e | e
   .exact b0 e.symm
   .exact c6 e.symm
   .exact hO (e▸zD)
   .exact f.ne e
   .rcases a4 On e with x | x
    .exact hO (zw On x)
    .omega
   .rw[zRu.1 e]at lO;omega
   .rw[zRu.1 e]at lO;omega
  .have lP:=w.old At a;have hn:=w.pr At a;rcases hx with e | e | e | e | e | e | e
   .exact hn (e▸zA)
   .exact hn (e▸zS)
   .exact hn (e▸zD)
   .exact hn (e▸zN)
   .rcases a4 At e with x | x
    .exact hn (zw At x)
    .omega
   .rw[zRu.1 e]at lP;omega
   .rw[zRu.1 e]at lP;omega
  .rw[fC (by omega),fC (by omega)];exact w.s0
 .refine⟨⟨a0.ok,by omega,fun At a u=> ?_⟩,fun At hx=> ?_⟩
  .have a1:At≠A:=fun e=>u (e▸zA)
   have a2:At≠t:=fun e=>u (e▸zS)
   rw[a0.keep At (by omega) (by omega),C.keep At (by omega) (fun x=>x),y.keep At (by omega) a1,s9.keep At (by omega) (fun h=>u (zo At h)),O.keep At (by omega) (fun x=>x),z.keep At (by omega) (fun h=>by rcases h with e | e | e;exact u (e▸zD);exact u (e▸zN);exact u (zw At e)),s6.keep At (by omega) a1,s5.keep At (by omega) (fun h=>u (zt At h)),Ad.keep At (by omega) (fun x=>x),K.keep At (by omega) a2,P2.keep At a (fun x=>x)]
  .rcases hx with e | e | e | e | e | e | e
   .exact .inl (e▸zA)
   .exact .inl (e▸zS)
   .exact .inl (e▸zD)
   .exact .inl (e▸zN)
   .rcases a4 At e with x | x
    .exact .inl (zw At x)
    .exact .inr (by omega)
   .rw[zRu.1 e];exact .inr (by omega)
   .rw[zRu.1 e];exact .inr (by omega)
open Go.Bt
def cp (l:List Ptr):Nat:=(l.filter fun p=>decide (p.at_=1)).length
theorem zJm:cp []=0:=rfl
theorem cY (p:Ptr)(l:List Ptr):cp (p::l)=(if p.at_=1 then 1 else 0)+cp l:=by
 by_cases e:p.at_=1
 .simp[cp,e];omega
 .simp[cp,e]
theorem JU (a b:List Ptr):cp (a++b)=cp a+cp b:=by simp[cp,jH]
theorem zLj (p:Ptr)(l:List Ptr):dsk (p::l)=if p.at_=1 then dsk l else p::dsk l:=by
 by_cases e:p.at_=1<;>simp[dsk,e]
theorem d7  :q∈dsk h↔q∈h/\q.at_≠1:=by simp[dsk]
theorem Ev.K_keep {E:Ev}(h:E.K q=some w)(hb:blkAt q.at_.toNat Y=blkAt q.at_.toNat E.ws):Ev.K { E with ws:=Y} q=some w:=by
 obtain⟨a,birth,kind,body,rfl,j,m,o,p,f,t,u,x⟩:=zRw.1 h;refine zRw.2 ⟨a,birth,kind,body,rfl,j,m,o,p,f, ?_,u,x⟩;have e:(fJ a birth (sealB kind birth body)).at_.toNat=a:=by simp[fJ]
 rw[e]at hb;exact hb.trans t
structure WOut (nb:Nat)(ws ws':Ws)(is is':Nat->Nat)(T T':List Ptr):Prop where
 pm: ∃news,T'.Perm (dsk T++news)/\news.Nodup/\news.length=cp T/\ ∀r∈news,2<=r.at_/\is r.at_.toNat=0/\is' r.at_.toNat≠0
 up: ∀i,is' i=is i\/(is i=0/\is' i=2)
 ct:cnt is' 0 nb+cp T=cnt is 0 nb
 bk: ∀a,is a≠0->blkAt a ws'=blkAt a ws
 ln:ws'.length=ws.length+cp T
theorem WOut.nil (nb:Nat)(ws:Ws)(is:Nat->Nat){T:List Ptr}(h: ∀r∈T,r.at_≠1):WOut nb ws ws is is T T:=by
 have e:dsk T=T:=List.filter_eq_self.2 fun p hp=>by simpa using h p hp
 have c:cp T=0:=by
  rw[cp,List.length_eq_zero_iff];exact List.filter_eq_nil_iff.2 fun p hp=>by simpa using h p hp
 exact⟨⟨[],by simp[e],by simp,by rw[c];rfl,by simp⟩,fun _=> .inl rfl,by omega,fun _ _=>rfl,by omega⟩
theorem WOut.nz {nb:Ws}(w:WOut n Y nb v j h L)(ws:v A≠0):j A≠0:=by
 rcases w.up A with e | ⟨e,_⟩<;>omega
theorem WOut.used {m:Ws}(w:WOut n Y m v j h L)(ws: ∀r∈h,r.at_≠1->v r.at_.toNat≠0): ∀r∈L,r.at_≠1/\j r.at_.toNat≠0:=fun r hr=>by
 obtain⟨u,p,_,_,o⟩:=w.pm;rcases zZ.1 (p.mem_iff.1 hr)with e | e
 .obtain⟨q,nb⟩:=d7.1 e;exact⟨nb,w.nz (ws r q nb)⟩
 .obtain⟨x,_,t⟩:=o r e;exact⟨by omega,t⟩
theorem WOut.app {m o:Ws}{q:Nat->Nat}{T:List Ptr}(w:WOut n Y m v j h L)(ws:WOut n m o j q u T):WOut n Y o v q (h++u) (L++T):=by
 obtain⟨K,N,O,l1,z⟩:=w.pm;obtain⟨S,nb,Z,l2,C⟩:=ws.pm;refine⟨⟨K++S, ?_, ?_,by rw[JU,zV,l1,l2],fun r hr=> ?_⟩,fun i=> ?_, ?_,fun a f=> ?_, ?_⟩
 .rw[zDD];refine(N.append nb).trans ?_;rw[List.perm_iff_count];intro a;simp only[List.count_append];omega
 .refine List.nodup_append.2 ⟨O,Z,fun a f b hb e=> ?_⟩;subst e;exact(z a f).2.2 (C a hb).2.1
 .rcases zZ.1 hr with e | e
  .obtain⟨p,J,is⟩:=z r e;exact⟨p,J,ws.nz is⟩
  .obtain⟨p,J,is⟩:=C r e;refine⟨p, ?_,is⟩;rcases w.up r.at_.toNat with x | ⟨x,y⟩
   .omega
   .exact x
 .rcases w.up i with a | ⟨a,b⟩<;>rcases ws.up i with c | ⟨c,d⟩
  .exact .inl (by omega)
  .exact .inr ⟨by omega,d⟩
  .exact .inr ⟨a,by omega⟩
  .omega
 .have:=w.ct;have:=ws.ct;rw[JU];omega
 .rw[ws.bk a (w.nz f),w.bk a f]
 .have:=w.ln;have:=ws.ln;rw[JU];omega
theorem WOut.put {m:Ws}{o:List Ptr}(w:WOut A Y m v j h o){s birth:Nat}{b:Str}(y:2<=t)(jn:t<A)(p:j t=0):WOut A Y (m++[(t,b)]) v (VL j t 2) (pp s::h) (fJ t birth b::o):=by
 have ws:WOut A m (m++[(t,b)]) j (VL j t 2) [pp s] [fJ t birth b]:=by
  obtain⟨k1,k2⟩:=(zAM (b:=2) p (by omega) (n:=A)).1 jn;refine⟨⟨[fJ t birth b],by simp[dsk,pp],by simp,by simp[cp,pp],fun r hr=> ?_⟩,fun i=> ?_, ?_,fun a u=> ?_,by simp[cp,pp]⟩
  .obtain rfl:r=fJ t birth b:=by simpa using hr
   have:(fJ t birth b).at_.toNat=t:=by simp[fJ]
   rw[this,fO];exact⟨by simp[fJ];omega,p,by omega⟩
  .by_cases e:i=t
   .subst e;exact .inr ⟨p,fO ..⟩
   .exact .inl (fC e)
  .simp only[cp,pp,decide_true,List.filter_cons_of_pos,List.filter_nil,yX];omega
  .rw[JA,if_neg (fun e:t=a=>u (by rw[<-e];exact p))]
 have nb:=w.app ws;refine⟨?_,nb.up, ?_,nb.bk, ?_⟩
 .obtain⟨q,a,b,c,d⟩:=nb.pm;refine⟨q, ?_,b, ?_,d⟩
  .have x:(fJ t birth ‹_› ::o).Perm (o++[fJ t birth ‹_›]):=(List.perm_append_singleton _ _).symm;refine x.trans (a.trans ?_);rw[zDD,zLj];simp[dsk,pp]
  .rw[c,JU,cY];simp[pp,cp,Nat.add_comm]
 .have:=nb.ct;rw[JU]at this;rw[cY];simp only[cY,zJm]at this;omega
 .have:=nb.ln;rw[JU]at this;rw[cY];simp only[cY,zJm]at this;omega
def WN (h:Nat)(t:Bt.Tr h):Prop:=(∃lo hi,WF h lo hi t)\/WR h t
theorem WN.gen {h:Nat}{t:Bt.Tr h}(w:WN h t): ∃lo hi,Gen h lo hi t:=by
 rcases w with⟨lo,hi,w⟩ | w
 .exact⟨lo,hi,w.gen⟩
 .exact⟨none,none,w.gen⟩
theorem WN.sz {h:Nat}{t:Bt.Tr h}(w:WN h t):wK h t<=500:=by
 rcases w with⟨lo,hi,w⟩ | w
 .exact w.sz
 .exact w.sz
theorem WN.ne {t:Bt.Tr (n+1)}(w:WN (n+1) t):t.1≠[]:=by
 rcases w with⟨lo,hi,w⟩ | w
 .exact w.2.1
 .exact w.2.1
theorem WN.kid {t:Bt.Tr (n+1)}(w:WN (n+1) t){x:Bt.Tr n}(a:x∈t.2):WN n x:=by
 obtain⟨i,hi,rfl⟩:=jL a;rcases w with⟨lo,f,w⟩ | w
 .exact .inl ⟨_,_,w.1.2.2.at (zQ hi)⟩
 .exact .inl ⟨_,_,w.1.2.2.at (zQ hi)⟩
end Go.Eng.Sh
end
section
namespace Go.Eng
theorem rowSt (f:k.ok){i N cc:Nat}{a x:List AV}(h:k.h.get n=some (.cells (e++a) A t W))(j:e.length=i*t)(m:0<t)(C:t<=a.length)(p:x.length=t)(q:jP x=true)(hi:i<N):
  ∃H',(∀κ (z:Int),z=(i:Int)->aS t (.slice n 0 N cc) (.int κ z)=some (.ptr n (i*t)))/\stN t (.ptr n (i*t)) (.agg x) k=some (jQ,H')/\H'.h.get n=some (.cells (e++x++a.drop t) A t W)/\Stp (fun B=>B=n) k H'/\H'.next=k.next:=by
 have hb:Nat.blt i N=true:=by rw[qE];exact hi
 have o:i*t+t<=(e++a).length:=by rw[zV];omega
 refine⟨_,fun κ z H=> ?_,WK h m p q o, ?_,(zRx f).put (f.lt h) _ (.inr rfl),rfl⟩
 .subst H;simp only[aS,kK κ (show(0:Int)<=(i:Int)by omega),yB,hb,zO,kE,yZ]
 .rw[zRt,if_pos rfl];have u:(e++a).take (i*t)=e:=jA j;have y:(e++a).drop (i*t+t)=a.drop t:=by rw[<-List.drop_drop,yV j]
  simp only[jU,u,y]
end Go.Eng
namespace Go.Eng.Sh
open Go.Nd (Ptr Str)
open Go.Bk Go.Bt
theorem AdT.keep {Z a:Nat->Prop}{H H':AH}(h:AdT Z H a H'){A:Nat}(f:A<H.next)(j: ¬Z A):H'.h.get A=H.h.get A/\ ¬a A/\A<H'.next:=
 ⟨h.1.keep A f j,fun x=>by rcases h.2 A x with y | y;exact j y;omega,qG f h.1.next⟩
theorem Wr.box (w:Wr U k n A t B D .nP G M N v q H p P l i J)(s:Stp (fun H'=>H'=R) k C)(K: ¬i R)(hp: ¬J R)(Aw:k.h.get R=some (.cells e c m W)):Wr U C n A t B D .nP G M N v q H p P l i J:=by
 obtain⟨j,u,x,y,O,S,nt,T,Y,z,E,ot,oo,hn,a,hO⟩:=w.gw;have Ad:=w.ti.ok;have nz: ∀H',i H'-> ¬H'=R:=fun H' h c=>K (c▸h)
 have nO: ¬j=R:=fun c=>by have:=z.gO;rw[c,Aw]at this;cases this
 have As:DkI C D U.nb U.ws j u x y:=z.stp Ad s (nz _ ((a _).2 (.inr (.inr (.inl rfl))))) nO (nz _ ((a _).2 (.inr (.inr (.inr (.inl rfl)))))) fun H' f=>nz _ ((a _).2 (.inr (.inr (.inr (.inr (.inl f))))))
 have At:=w.ti.wr s (fun H' f=>fun c=>hp (c▸(w.pa H').2 f)) As;exact⟨At,w.sp.stp Ad s (nz _ ((a _).2 (.inr (.inl rfl)))),w.few,⟨j,u,x,y,O,S,nt,T,Y,As,by rw[s.keep _ (Ad.lt E) (nz _ ((a _).2 (.inl rfl)))];exact E,ot.mono s fun H' f=>nz _ ((a _).2 (.inr (.inr (.inr (.inr (.inr (.inl f))))))),oo.mono s fun H' f=>nz _ ((a _).2 (.inr (.inr (.inr (.inr (.inr (.inr f))))))),hn,a,hO⟩,w.pr,w.pa,w.bd,w.nb,w.s0,w.lf⟩
theorem Wr.dec (w:Wr U k n A t B D .nP G (M+1) N v q H p P l i J):
  ∃H',Eng.ld1 (.ptr n 3) k=some (.int .i64 (M+1:Nat))/\stN 1 (.ptr n 3) (.int .i64 M) k=some (jQ,H')/\Eng.ld1 (.ptr n 3) H'=some (.int .i64 M)/\Eng.ld1 (.ptr n 0) H'=some (.ptr t 0)/\Wr U H' n A t B D .nP G M N v q H p P l i J/\AdT i k i H'/\H'.next=k.next:=by
 obtain⟨Ad,K,As,O,tv,ov,nt,tl,ol,m,a,S,T,hn,Y,hO⟩:=w.gw;have At:=w.ti.ok;obtain⟨H1,e1,E,j,n1⟩:=xM At a (o:=3) (x:= .int .i64 M) rfl (by simp);have u:i n:=(Y _).2 (.inl rfl);have a0:A≠n:=fun e=>by
  obtain⟨c,g,l8,_⟩:=w.sp;rw[e,a]at g;simp only[zB,AObj.cells.injEq]at g;rw[<-g.1]at l8;simp at l8
 have z:DkI H1 D U.nb U.ws Ad K As O:=m.stp At j (fun e=>kC a m.gD (by simp) e.symm) (fun e=>hO (e▸u)) (fun e=>kC a m.gN (by simp) e.symm) fun Aw f e=>kC a (m.ow.get f) (by simp) e.symm
 refine⟨H1,by rw[jM a];rfl,e1,by rw[jM E];rfl,by rw[jM E];rfl,⟨w.ti.wr j (fun Aw f e=>w.pr Aw ((w.pa Aw).2 f) (e▸u)) z,w.sp.stp At j a0,w.few,⟨Ad,K,As,O,tv,ov,nt,tl,ol,z,E,S.mono j fun Aw f e=>kC a (zRG S f) (by simp) e.symm,T.mono j fun Aw f e=>kC a (zRG T f) (by simp) e.symm,hn,Y,hO⟩,w.pr,w.pa,w.bd,w.nb,w.s0,by have:=w.lf;omega⟩,⟨j.mono fun Aw _ e=>e▸u,fun _ h=> .inl h⟩,n1⟩
def zM3 (h:Nat):Prop:= ∀ {E:Ev} {H:AH} {Aw As At M Ad txg left la:Nat} {is:Nat->Nat} {root:Ptr} {es:List (AV×AV)} {q:PN} {j:Nat} {u:AV} {Z P:Nat->Prop} (k n:Nat) {p:Ptr} {nd:Nd.Node} {t:Bt.Tr h} {S:List Ptr},200000000+h<=k->200000000<=n->
  Wr E H Aw As At M Ad .nP txg left la is root es q j u Z P->Qf E q [] p=some nd->kT (Qf E q []) h nd t S->WN h t->(∀r∈p::S,r.at_≠1->is r.at_.toNat≠0)->cp (p::S)<=left->cp (p::S)<=cnt is 0 E.nb->txg<=2147483647->
  ∃H' a x la' m f o y left',f96 (dy k) n [.ptr Aw 0, .agg (jS p)] H=some (.tuple [.agg (jS f), .int .i64 (0:Nat)],H')/\Wr { E with ws:=a} H' Aw As At M Ad .nP txg left' la' m root es q j u x P/\AdT Z H x H'/\WOut E.nb E.ws a is m (p::S) (f::y)/\left'+cp (p::S)=left/\Ev.K { E with ws:=a} f=some o/\kT (Ev.K { E with ws:=a}) h o t y
theorem zDP (h:Qf U p [] q=some w)(hb:q.at_≠1->blkAt q.at_.toNat Y=blkAt q.at_.toNat U.ws):Qf { U with ws:=Y} p [] q=some w:=by
 obtain⟨s,rfl,f⟩ | ⟨f,j⟩:=uO h
 .rw[zAW]at h⊢;exact h
 .rw[JE f];exact Ev.K_keep j (hb fun e=>by have:=(bX j).2;omega)
theorem wkids (ih:zM3 n)(k Aw:Nat)(hk:200000000+n<=k)(hn:200000000<=Aw){cc:Nat}{x4 x6:AV}(ht:M<=2147483647)(hN:P=h.length)(f6:P<=100000):
  ∀(ps:List Ptr) (ts:List (Bt.Tr n)) (S a:List Ptr) (E:Ev) (Ad:AH) (Z:Nat->Prop) (left la:Nat) (is:Nat->Nat) (j:Nat) (C:List AV),Wr E Ad A t B D G .nP M left la is q H p R l Z i->xU (Qf E p []) (kT (Qf E p []) n) ps ts S->(∀x∈ts,WN n x)->(∀r∈S,r.at_≠1->is r.at_.toNat≠0)->cp S<=left->cp S<=cnt is 0 E.nb->ps.length<j->
   gZ Ad F h->(∀At,Blk F At->i At)->h.drop a.length=ps->a.length+ps.length=h.length->Ad.h.get N=some (.cells (a.flatMap jS++C) 42 3 false)->C.length=ps.length*3-> ¬Z N-> ¬i N->
   ∃H' a0 Z' la' b5 left' b6 S',kI j (zG4 (dy (k+1)) Aw) [.ptr A 0,x4,x6, .slice N 0 P cc,F, .int .i64 P, .int .i64 a.length] Ad=some (.exit 0 [.ptr A 0,x4,x6, .slice N 0 P cc],H')/\Wr { E with ws:=a0} H' A t B D G .nP M left' la' b5 q H p R l Z' i/\AdT (fun At=>Z At\/At=N) Ad (fun At=>Z' At\/At=N) H'/\ ¬Z' N/\WOut E.nb E.ws a0 is b5 S S'/\left'+cp S=left/\xU (Ev.K { E with ws:=a0}) (kT (Ev.K { E with ws:=a0}) n) b6 ts S'/\H'.h.get N=some (.cells ((a++b6).flatMap jS) 42 3 false):=by
 intro ps
 induction ps with
 | nil=>
  intro ts S a E Ad Z left la is j C w rl hw hu b7 b8 a4 a9 a6 hd hl g8 a7 b0 a8;obtain⟨j,rfl⟩: ∃m,j=m+1:=⟨j - 1,by simp at a4;omega⟩
  cases ts with
  | cons _ _=>exact rl.elim
  | nil=>
   have e:S=[]:=rl;subst e;have hi: ¬(a.length:Int)< (P:Int):=by simp only[yF]at hl;omega
   have d2:C=[]:=zW (by simpa using a7);subst d2;refine⟨Ad,E.ws,Z,la,is,left,[],[],jW (by simp(disch:=omega) only[zG4,eZ,hi]),w,AdT.prs (zRx w.ti.ok),b0,WOut.nil _ _ _ (by simp),by rw[zJm];omega,rfl,by simpa using g8⟩
 | cons txg ps ihp=>
  intro ts S a E Ad Z left la is j C w rl hw hu b7 b8 a4 a9 a6 hd hl g8 a7 b0 a8;obtain⟨j,rfl⟩: ∃m,j=m+1:=⟨j - 1,by simp at a4;omega⟩
  cases ts with
  | nil=>exact rl.elim
  | cons As ts=>
   obtain⟨nd,S1,J,hq,hr,d3,rfl⟩:=rl;have b9:a.length<h.length:=by simp at hl;omega
   have d4:h[a.length]=txg:=by
    have:=List.getElem_cons_drop b9;rw[hd]at this;simp only[y8]at this;exact this.1
   obtain⟨pk,q1,q2⟩:=a9.at b9;rw[d4]at q2;have b2:=w.ti.ok;have l8:=b2.lt g8;obtain⟨H1,c0,b1,p1,g1,m1,n1⟩:=box b2 (.cells [.int .i64 (0:Nat), .int .i64 (0:Nat), .int .u64 (0:Nat)] 42 1 false);obtain⟨H2,e2,g2,s2,n2⟩:=jV p1.ok g1 (l':=jS txg) rfl rfl;have d5:stN 3 (.ptr c0 0) (.agg (jS txg)) H1=some (jQ,H2):=e2;have O:Prs Ad H2:=p1.fresh s2 fun At y=>by omega
   have r2:ldN 3 (.ptr c0 0) H2=some (.agg (jS txg)):=xB g2 rfl;have T:txg::(S1++J)=(txg::S1)++J:=rfl;rw[T,JU]at b7 b8;obtain⟨H3,z,Z3,d6,c1,u,d7,b3,c8,e3,w3,a3,o3,f7,d8,d9⟩:=ih k k hk (by omega) (w.prs O) hq hr (hw As (zJ ..)) (fun r hr=>hu r (by rw[T];exact qU _ hr)) (by omega) (by omega) ht;have N2:=O.next;have N3:=a3.1.next
   have c2:=zRB O b2 g8;obtain⟨k8,z8,f8⟩:=a3.keep (O.ok.lt c2) b0;have c3:=k8.trans c2;obtain⟨H4,e0,e4,g4,s4,n4⟩:=rowSt (cc:=cc) w3.ti.ok c3 (i:=a.length) (N:=P) (x:=jS u) (cR a) (by omega) (by simp at a7;omega) rfl rfl (by omega);have w4:=w3.box s4 z8 a8 c3;have c4:(a++[u]).length=a.length+1:=by simp
   have c5: ∀r,r∈J-> ∀nd,Qf E p [] r=some nd->Qf { E with ws:=z} p [] r=some nd:=fun r hr nd n=>zDP n fun Y=>o3.bk _ (hu r (by rw[T];exact yQ _ hr) Y)
   have e6:xU (Qf { E with ws:=z} p []) (kT (Qf { E with ws:=z} p []) n) ps ts J:=d3.mono c5 fun nd As S' hS r=>r.mono fun txg hp nd hh=>c5 txg (hS txg hp) nd hh
   have d0:gZ H4 F h:=by
    refine(Rw.stp (Rw.stp (a9.prs O) a3.1 fun At y=> ?_) s4 fun At y e=> ?_)
    .exact w.pr At (a6 At y)
    .exact a8 (e▸a6 At y)
   obtain⟨H5,c6,Z5,e7,e8,c9,e9,S5,e5,w5,a5,z5,o5,f9,f1,g5⟩:=ihp ts J (a++[u]) { E with ws:=z} H4 Z3 c8 d6 c1 j (C.drop 3) w4 e6 (fun x hx=>hw x (zC _ hx)) (fun r hr Y=>o3.nz (hu r (by rw[T];exact yQ _ hr) Y)) (by omega) (by have:=o3.ct;show cp J<=cnt c1 0 E.nb;omega) (by simp at a4;omega) d0 a6 (by rw[c4,<-List.drop_drop,hd];rfl) (by simp at hl⊢;omega) (by rw[g4];simp) (by simp at a7⊢;omega) z8 a8;have o:=o3.app o5;have f2:=o3.used (fun r hr Y=>hu r (by rw[T];exact qU _ hr) Y);have c7: ∀r,r∈u::b3-> ∀nd,Ev.K { E with ws:=z} r=some nd->Ev.K { E with ws:=c6} r=some nd:=fun r hr nd n=>Ev.K_keep (E:= { E with ws:=z}) n (o5.bk _ (f2 r hr).2)
   refine⟨H5,c6,Z5,e7,e8,c9,u::e9,u::b3++S5, ?_,w5, ?_,z5,o,by rw[T,JU];omega,⟨d7,b3,S5,c7 u (zJ ..) _ d8,d9.mono fun r hr nd n=>c7 r (zC _ hr) nd n,f1,rfl⟩,by rw[g5];simp⟩
   .have hi:(a.length:Int)< (P:Int):=by omega
    have f3: ¬(((0:Nat):Int)≠((0:Nat):Int)):=by omega
    have hi1:(a.length:Int)+((1:Nat):Int)=(((a++[u]).length:Nat):Int):=by rw[c4];omega
    have wi:IntKind.wrap .i64 (((a++[u]).length:Nat):Int)=(((a++[u]).length:Nat):Int):=wrap_i64 (by omega) (by omega);have d1:=e0 .i64 _ rfl;have f4:=q1 .i64 _ rfl;have f5:(dy (k+1)).fn 96 [.ptr A 0, .agg (jS txg)] H2=some (.tuple [.agg (jS u), .int .i64 (0:Nat)],H3):=e3;refine(kX ?_).trans e5;simp(maxSteps:=999999)(disch:=omega) only[zG4,eZ,hi,f4,q2,b1,d5,r2,f5,jN,nth,d1,e4,f3,hi1,wi]
   .have a1:AdT (fun At=>Z At\/At=N) Ad (fun At=>Z3 At\/At=N) H3:=by
     refine⟨(O.stp).trans (a3.1.mono fun At _ n=> .inl n),fun At y=> ?_⟩;rcases y with y | y
     .rcases a3.2 At y with x | x
      .exact .inl (.inl x)
      .exact .inr (by omega)
     .exact .inl (.inr y)
    have a2:AdT (fun At=>Z3 At\/At=N) H3 (fun At=>Z3 At\/At=N) H4:=⟨s4.mono fun At _ n=> .inr n,fun At n=> .inl n⟩;exact(a1.trans a2).trans a5
theorem zEc (z:List AV): ∀n,(rep n z).length=n*z.length
 | 0=>by simp[rep]
 | n+1=>by rw[rep,zV,zEc z n,jI];omega
theorem zO9 (e sz bytes:Nat)(z:List AV)(a:n<=1000000)(hb:bytes<=1000):zI1 e sz bytes z (.int .i64 n) (.int .i64 n)=some (.cells (rep n z) e sz false,fun A=> .slice A 0 n (2*n)):=by
 have f:Nat.ble n n=true:=by rw[qV];omega
 have h:Nat.ble (n*bytes) 140737488355328=true:=by
  rw[qV]
  calc n*bytes<=1000000*1000:=Nat.mul_le_mul a hb
   _<=140737488355328:=by decide
 have j:Nat.blt n 9223372036854775808=true:=by rw[qE];omega
 show zI1 e sz bytes z (.int .i64 (.ofNat n)) (.int .i64 (.ofNat n))=_;simp only[zI1,f,h,j,qN,zO]
theorem zKi (s:Str):U6 s<18446744073709551616:=zAb _ _ (by omega)
theorem AdT.prsR (h:AdT i k J C)(s:Prs C g):AdT i k J g:=h.trans (AdT.prs s)
theorem AdT.boxR (h:AdT i k J C)(s:Stp (fun B=>B=n) C g)(p:k.next<=n):AdT i k J g:=by
 have N:=h.1.next;have q:=s.next
 refine⟨⟨s.ok,by omega,fun B m o=> ?_⟩,h.2⟩;rw[s.keep B (by omega) (by omega),h.1.keep B m o]
theorem AdT.dropR {j:Nat->Prop}(h:AdT i k J C)(Z:AdT (fun B=>J B\/B=n) C (fun B=>j B\/B=n) g)(q:k.next<=n):AdT i k j g:=by
 have N:=h.1.next;have t:=Z.1.next
 refine⟨⟨Z.1.ok,by omega,fun B a p=> ?_⟩,fun B a=> ?_⟩
 .rw[Z.1.keep B (by omega) fun x=> ?_,h.1.keep B a p];rcases x with x | x
  .rcases h.2 B x with y | y
   .exact p y
   .omega
  .omega
 .rcases Z.2 B (.inl a)with(x | x) | x
  .exact h.2 B x
  .exact .inr (by omega)
  .exact .inr (by omega)
theorem zPK (Aw E:Nat)(hk:200000000<=Aw)(hn:200000000<=E){At:Bt.Tr n}
  (root:Wr U k A t B D G .nP M (N+1) P v q H p c l i J) (hq:jX R p=some w) (hr:kT (Qf U p []) n w At h) (hw:WN n At) (n0:cp h+1<=cnt v 0 U.nb) (hu: ∀r∈h,r.at_≠1->v r.at_.toNat≠0) (ht:M<=2147483647)
  (i0: ∀(k:AH) (kv x4 x6:AV) (la:Nat) (l2:List AV),Wr U k A t B D G .nP M N P v q H p c l i J->gZ k kv w.kids->(∀Ad,Blk kv Ad->J Ad)->k.h.get la=some (.cells l2 42 3 false)->l2.length=w.kids.length*3-> ¬i la-> ¬J la->
   ∃H' is Y la' a0 left' a9 y,kI E (zG4 (dy Aw) E) [.ptr A 0,x4,x6, .slice la 0 w.kids.length (2*w.kids.length),kv, .int .i64 w.kids.length, .int .i64 (0:Nat)] k=some (.exit 0 [.ptr A 0,x4,x6, .slice la 0 w.kids.length (2*w.kids.length)],H')/\Wr { U with ws:=is} H' A t B D G .nP M left' la' a0 q H p c l Y J/\AdT (fun Ad=>i Ad\/Ad=la) k (fun Ad=>Y Ad\/Ad=la) H'/\ ¬Y la/\WOut U.nb U.ws is v a0 h y/\left'+cp h=N/\a9.length=w.kids.length/\kT (Ev.K { U with ws:=is}) n { w with kids:=a9} At y/\H'.h.get la=some (.cells (a9.flatMap jS) 42 3 false)):
  ∃H' is Y la' a0 p' f y left',f96 (dy Aw) E [.ptr A 0, .agg (jS (pp R))] k=some (.tuple [.agg (jS p'), .int .i64 (0:Nat)],H')/\Wr { U with ws:=is} H' A t B D G .nP M left' la' a0 q H p c l Y J/\AdT i k Y H'/\WOut U.nb U.ws is v a0 (pp R::h) (p'::y)/\left'+cp (pp R::h)=N+1/\Ev.K { U with ws:=is} p'=some f/\kT (Ev.K { U with ws:=is}) n f At y:=by
 obtain⟨k2,rfl⟩: ∃k2,Aw=k2+2:=⟨Aw - 2,by omega⟩;have j6:=root.ti.ok;have zl:=root.lt;have hP:=root.old;obtain⟨H1,A3,b1,p1,g1,m1,n1⟩:=box j6 (.cells (jS (pp R)) 42 1 false);obtain⟨H2,A4,b2,p2,g2,m2,n2⟩:=box p1.ok (.cells [.int .i64 (0:Nat), .int .i64 (0:Nat), .int .u64 (0:Nat)] 42 1 false);have P2:=p1.trans p2;have N1:=p1.next;have N2:=p2.next
 have b0:=zRB p2 p1.ok g1;obtain⟨H3,d1,d2,d3,d4,w3,a3,n3⟩:=(root.prs P2).dec;have n5:=w3.lt;obtain⟨k13,n8,o0⟩:=a3.keep (p2.ok.lt b0) (fun x=>by have:=zl _ x;omega);have j7:=k13.trans b0;obtain⟨k23,o1,o2⟩:=a3.keep (p2.ok.lt g2) (fun x=>by have:=zl _ x;omega);have j8:=k23.trans g2;have r2:Eng.ld1 (.ptr A3 0) H2=some (.int .i64 (1:Nat)):=by rw[jM b0];rfl
 have r3:ldN 3 (.ptr A3 0) H3=some (.agg (jS (pp R))):=xB j7 rfl;obtain⟨H4,C,b4,p4,g4,m4,n4⟩:=box w3.ti.ok (.cells [.bool false, .nS, .nS, .nS] 119 1 false);have N4:=p4.next
 obtain⟨left,H5,e5,p5,d6,kx,j9⟩:=zBy (dy (k2+2)) E (w3.ti.prs p4) hq;have N5:=p5.next
 obtain⟨s,rfl,ll,lc⟩:=d6.cells;have k0:=zRB p5 p4.ok g4;obtain⟨H6,e6,g6,s6,n6⟩:=jV p5.ok k0 (l':=s) ll lc;have d7:stN 4 (.ptr C 0) (.agg s) H5=some (jQ,H6):=e6;have p6:Prs H3 H6:=(p4.trans p5).fresh s6 fun Ad m=>by omega
 have N6:=p6.next
 obtain⟨ks,vs,ps,he,h1,h2,h3⟩:=id d6;simp only[AV.agg.injEq]at he;subst he;have f3:Eng.ld1 (.ptr C 3) H6=some ps:=by rw[jM g6];rfl
 have d8:gZ H5 ps w.kids:=h3.row;have d9:lnSl ps=some (.int .i64 w.kids.length):=d8.lnSl;have k1:wK n At<=500:=hw.sz;have o3:small w:=vJ (by rw[hr.size];omega);have o4:w.kids.length<=100:=by
  have:Nd.size w=wK n At:=hr.size;simp only[Nd.size]at this;omega
 obtain⟨z3,e0⟩: ∃z3,z3=rep w.kids.length [AV.int .i64 (0:Nat), .int .i64 (0:Nat), .int .u64 (0:Nat)]:=⟨_,rfl⟩;have i3:z3.length=w.kids.length*3:=by rw[e0];exact zEc _ _
 have e1:zI1 42 3 24 [.int .i64 (0:Nat), .int .i64 (0:Nat), .int .u64 (0:Nat)] (.int .i64 w.kids.length) (.int .i64 w.kids.length)=some (.cells z3 42 3 false,fun As=> .slice As 0 w.kids.length (2*w.kids.length)):=by
  rw[e0];exact zO9 _ _ _ _ (by omega) (by omega)
 obtain⟨H7,la,b7,p7,g7,m7,n7⟩:=box s6.ok (.cells z3 42 3 false);have N7:=p7.next
 have P7:Prs H3 H7:=p6.trans p7;have w7:=w3.prs P7;have b3:=zRB p7 s6.ok g6;have e2:Eng.ld1 (.ptr C 3) H7=some ps:=by rw[jM b3];rfl
 have bl: ∀Ad,xT (.agg [.bool w.leaf,ks,vs,ps]) Ad->J Ad:=fun Ad m=>(root.pa Ad).2 (.inr (.inr (.inr ⟨_,j9,m⟩)))
 have e3:Stp (fun Ad=>Ad=C) H5 H7:=s6.trans p7.stp;have b5: ∀Ad,J Ad-> ¬Ad=C:=fun Ad m=>by have:=hP Ad m;omega
 have i4:gZ H7 ps w.kids:=Rw.stp d8 e3 fun Ad m=>b5 Ad (bl Ad (wO.2 (.inr (.inr m))))
 have z8: ¬i la:=fun x=>by have:=zl _ x;omega
 have q8: ¬J la:=fun x=>by have:=hP _ x;omega
 obtain⟨H8,T,Z8,o5,k3,i1,qs,y,e8,w8,a8,o6,o8,o7,k4,z,g8⟩:=i0 H7 ps (.ptr A4 0) (.ptr C 0) la z3 w7 i4 (fun Ad m=>bl Ad (wO.2 (.inr (.inr m)))) g7 i3 z8 q8;have k5:AdT i k i H7:=((AdT.prs P2).trans a3).prsR P7;have k6:AdT i k Z8 H8:=k5.dropR a8 (by omega);have N8:=a8.1.next
 have zs: ∀Ad,k.next<=Ad-> ¬i Ad:=fun Ad m x=>by have:=zl Ad x;omega
 obtain⟨k68,k7,o9⟩:=a8.keep (p7.ok.lt b3) (fun x=>by rcases x with x | x;exact zs _ (by omega) x;omega);have e4:=k68.trans b3;have e7:=zRB P7 w3.ti.ok j8;obtain⟨k48,k8,p0⟩:=a8.keep (p7.ok.lt e7) (fun x=>by rcases x with x | x;exact zs _ (by omega) x;omega);have f1:=k48.trans e7;obtain⟨H9,e9,g9,s9,n9⟩:=xM w8.ti.ok e4 (o:=3) (x:= .slice la 0 w.kids.length (2*w.kids.length)) rfl (by simp);have q6: ¬J C:=fun x=>by have:=hP _ x;omega
 have w9:=w8.box s9 (fun x=>k7 (.inl x)) q6 e4;have k9:=k6.boxR s9 (by omega);have N9:=s9.next
 have f2:H9.h.get la=some (.cells (qs.flatMap jS) 42 3 false):=by rw[s9.keep _ (w8.ti.ok.lt g8) (by omega)];exact g8
 obtain⟨f,O⟩: ∃f,f= { w with kids:=qs} :=⟨_,rfl⟩;have c6: ∀ {x:AV} {kk:Nat} {ll:List AV} {nn:Nat},Rw kk H5 x nn ll->(∀Ad,Blk x Ad->J Ad)->Rw kk H9 x nn ll:=fun l0 hb=>
  Rw.stp (Rw.stp (Rw.stp l0 e3 fun Ad m=>b5 Ad (hb Ad m)) a8.1 fun Ad m x=>by
   rcases x with x | x
   .exact root.pr Ad (hb Ad m) x
   .exact q8 (x▸hb Ad m)) s9 fun Ad m=>b5 Ad (hb Ad m)
 have l1:dG H9 (.agg [.bool w.leaf,ks,vs, .slice la 0 w.kids.length (2*w.kids.length)]) f:=by
  refine⟨ks,vs,_,by rw[O], ?_, ?_, ?_⟩
  .rw[O];exact c6 h1.row fun Ad m=>bl Ad (wO.2 (.inl m))
  .rw[O];exact c6 h2.row fun Ad m=>bl Ad (wO.2 (.inr (.inl m)))
  .rw[O];refine⟨cR qs, .inr (.inr ⟨la,0,2*w.kids.length,_,_,_,_,by simp only[k4],f2,w9.ti.ok.lt f2, ?_, ?_⟩)⟩
   .simp only[cR];omega
   .simp only[yM];rw[zY (by rw[cR];omega)]
 rw[<-O]at z;obtain⟨lo,hi,i5⟩:=hw.gen;have f5:=o8.used hu;have i6: ∀r∈y,Nd.kidOk r=true:=fun r u=>by
  obtain⟨x,hx⟩:=kT.here z r u;exact(bX hx).1
 have l3:0<n->f.keys≠[]:=fun h0=>by
  cases n with
  | zero=>omega
  | succ n=>rw[z.2.1];exact hw.ne
 have b6:Nd.shaped ltS f=true:=z.shaped i5 l3 i6;have a7:Nd.size f<=500:=by rw[z.size];exact k1
 have i7:small f:=vJ (by omega);have c7: ∀r∈f.kids,r∈y:=fun r u=>by
  cases n with
  | zero=>obtain⟨e,_⟩:=z;rw[e]at u;simp[Nd.leafOf]at u
  | succ n=>exact z.2.2.2.kids r u
 have c8: ∀r∈f.kids,Nd.sumOk r:=fun r u=>by
  obtain⟨x,hx⟩:=kT.here z r (c7 r u);obtain⟨a,birth,kind,body,rfl,_⟩:=zRw.1 hx;exact⟨by simp[fJ],by have:=zKi (sealB kind birth body);simp only[fJ];omega⟩
 obtain⟨l4,b8,a4⟩:=zJ5 (k2+1) E (by omega) hn w9.ti.ok l1 i7 c8;have i2:zN2 f=(Nd.encN f,0):=by simp only[zN2,b6,if_true,if_pos a7]
 rw[i2]at b8;have a5:(Nd.encN f).length<=500:=by rw[Nd.encN_length b6];exact a7
 obtain⟨kind,txg⟩: ∃kind:UInt8,kind=if f.leaf then 1 else 2:=⟨_,rfl⟩
 have l5:=w9.prs a4;obtain⟨p3,a1,b9⟩:=zHg (dy (k2+2)) E (by omega) a4.ok kind ht a5;obtain⟨Ad,m⟩: ∃Ad,Ad=sealB kind M (Nd.encN f):=⟨_,rfl⟩;have c0:=sealB_len (kind:=kind) (birth:=M) a5;rw[<-m]at a1 c0;obtain⟨Zb,f6⟩: ∃Zb:Str,Zb=List.replicate 512 0:=⟨_,rfl⟩;have l6:Zb.length=512:=by rw[f6];simp
 have f7:rep 512 [AV.int .u8 (0:Nat)]=jO Zb:=by rw[ZM,f6]
 obtain⟨p8,p9,f8,c1,i8,q2,q3⟩:=box b9.ok (.cells (jO Zb) 55 1 false);obtain⟨f9,g0,i9,g3⟩:=stR c1.ok i8 l6 c0;have q5:=a4.next;have q7:=b9.next;have q9:=c1.next;have r4:=g3.next
 have c2:Prs H9 f9:=((a4.trans b9).trans c1).fresh g3 fun Ad m=>by omega
 have g5:=ldR i9 c0;have h4:=w9.prs c2;obtain⟨l7,j,h5,c3,j2,jn,j0,c4,h6⟩:=zNg k2 E (by omega) (by omega) h4 kind ht a5 (by have:=o8.ct;show 0<cnt k3 0 U.nb;omega);rw[<-m]at c3 c4;have c9:f9.h.get A4=_:=zRB c2 w9.ti.ok ((s9.keep A4 (w8.ti.ok.lt f1) (by omega)).trans f1);obtain⟨j1,j3,m9⟩:=h6.keep (h4.ti.ok.lt c9) (fun x=>k8 (.inl x));have d0:=j1.trans c9;obtain⟨a6,l8,l9,h7,r5⟩:=jV c4.ti.ok d0 (l':=jS (fJ j M Ad)) rfl rfl;have d5:stN 3 (.ptr A4 0) (.agg (jS (fJ j M Ad))) l7=some (jQ,a6):=l8;have q4: ¬J A4:=fun x=>by have:=hP _ x;omega
 have m0:=c4.box h7 j3 q4 d0;have h8:ldN 3 (.ptr A4 0) a6=some (.agg (jS (fJ j M Ad))):=xB l9 rfl;have aF:AdT i k h5 a6:=((k9.prsR c2).trans h6).boxR h7 (by omega);have oF:=o8.put (s:=R) (birth:=M) (b:=Ad) j2 jn j0;have m3: ∀r∈y,blkAt r.at_.toNat (T++[(j,Ad)])=blkAt r.at_.toNat T:=fun r u=>by
  rw[JA,if_neg fun e:j=_=>(f5 r u).2 (by rw[<-e];exact j0)]
 have m5:kT (Ev.K { U with ws:=T++[(j,Ad)] }) n f At y:=z.mono fun r u r6 h2=>Ev.K_keep (E:= { U with ws:=T}) h2 (m3 r u)
 have m6:decide (kind=1)=f.leaf:=by rw[txg];cases f.leaf<;>rfl
 have j4:Nd.decN ltS (decide (kind=1)) (Nd.encN f)=some f:=by
  rw[m6];exact Nd.decN_encN (by simp only[Nd.may,b6,Bool.true_and,zT];exact a7) c8
 have m8:Ev.K { U with ws:=T++[(j,Ad)] } (fJ j M Ad)=some f:=by
  refine zRw.2 ⟨j,M,kind,Nd.encN f,by rw[m],j2,jn,⟨by have:=root.nb.2.1;have:j<U.nb:=jn;omega,fun r u=>(f5 r (c7 r u)).1⟩,ht,a5, ?_,by rw[txg];cases f.leaf<;>simp,j4⟩;show blkAt j (T++[(j,Ad)])=_;rw[JA,if_pos rfl,m]
 refine⟨a6,_,h5,j,_,fJ j M Ad,f,y,i1, ?_,m0,aF,oF,by rw[cY];simp only[pp,if_true];omega,m8,m5⟩;obtain⟨On,Nw,wv,ds,tv,ov,nt,r7,ol,dk,gw,_⟩:=l5.gw;have fw:Eng.ld1 (.ptr A 2) l4=some (.int .i64 M):=by rw[jM gw];rfl
 have f0:Eng.ld1 (.ptr C 0) H9=some (.bool w.leaf):=by rw[jM g9];rfl
 have f4:ldN 4 (.ptr C 0) H9=some (.agg [.bool w.leaf,ks,vs, .slice la 0 w.kids.length (2*w.kids.length)]):=xB g9 rfl;have j5:f.leaf=w.leaf:=by rw[O]
 rw[j5]at txg;have h9: ¬(((0:Nat):Int)≠((0:Nat):Int)):=by omega
 have t11: ¬(((1:Nat):Int)≠((1:Nat):Int)):=by omega
 have wi:((N+1:Nat):Int) - ((1:Nat):Int)=(N:Int):=by omega
 have tl: ¬(N:Int)< ((0:Nat):Int):=by omega
 have r8:=root.lf;have wl:IntKind.wrap .i64 (N:Int)=(N:Int):=wrap_i64 (by omega) (by omega)
 cases hc:w.leaf with
 | true=>
  rw[hc]at txg f0;have c5:(kind.toNat:Int)=((1:Nat):Int):=by rw[txg];rfl
  rw[c5]at a1;simp(maxSteps:=999999)(disch:=omega) only[f96,eZ,b1,b2,r2,t11,d1,wi,wl,d2,d3,tl,d4,r3,b4,e5,jN,nth,d7,h9,f3,d9,e1,b7,e2,e8,zOx,e9,f0,zOw,f4,b8,fw,a1,f7,f8,g0,g5,c3,d5,h8]
 | false=>
  rw[hc]at txg f0;have c5:(kind.toNat:Int)=((2:Nat):Int):=by rw[txg];rfl
  rw[c5]at a1;simp(maxSteps:=999999)(disch:=omega) only[f96,eZ,b1,b2,r2,t11,d1,wi,wl,d2,d3,tl,d4,r3,b4,e5,jN,nth,d7,h9,f3,d9,e1,b7,e2,e8,zOx,e9,f0,zOw,f4,b8,fw,a1,f7,f8,g0,g5,c3,d5,h8]
open Go.Nd (Kvs)
theorem kT.disk {E:Ev}{q:PN} : ∀ {h:Nat} {nd:Nd.Node} {t:Bt.Tr h} {S:List Ptr},kT (Qf E q []) h nd t S->(∀r∈nd.kids,r.at_≠1)->kT E.K h nd t S/\ ∀r∈S,r.at_≠1
 | 0,nd,t,S,w,_=>⟨w,by rw[w.2];simp⟩
 | h+1,nd,t,S,⟨a,b,c,w⟩,hk=>by
  have key: ∀(ps:List Ptr) (ts:List (Bt.Tr h)) (S:List Ptr),xU (Qf E q []) (kT (Qf E q []) h) ps ts S->(∀r∈ps,r.at_≠1)->xU E.K (kT E.K h) ps ts S/\ ∀r∈S,r.at_≠1:=by
   intro ps
   induction ps with
   | nil=>
    intro ts S w _
    cases ts with
    | nil=>have e:S=[]:=w;subst e;exact⟨rfl,by simp⟩
    | cons _ _=>exact w.elim
   | cons p ps ih=>
    intro ts S w hp
    cases ts with
    | nil=>exact w.elim
    | cons t ts=>
     obtain⟨nd,y,o,z,hr,C,rfl⟩:=w;have m:=hp p (zJ ..);obtain⟨s,rfl,_⟩ | ⟨_,u⟩:=uO z
     .exact absurd rfl m
     .obtain⟨_,_,_,_,_,_,_,⟨_,x⟩,_⟩:=zRw.1 u;obtain⟨f,j⟩:=kT.disk hr x;obtain⟨J,N⟩:=ih ts o C fun r hr=>hp r (zC _ hr)
      refine⟨⟨nd,y,o,u,f,J,rfl⟩,fun r hr=> ?_⟩;rcases zK.1 hr with rfl | hr
      .exact m
      .rcases zZ.1 hr with e | e
       .exact j r e
       .exact N r e
  obtain⟨f,j⟩:=key nd.kids t.2 S w hk;exact⟨⟨a,b,c,f⟩,j⟩
theorem zPJ (At:Dyn)(E:Nat){txg:Ptr}{Aw:Bt.Tr n}
  (la:Wr U k A t B D G .nP M N P v q H p R l i J) (m:U.K txg=some w) (hr:kT (Qf U p []) n w Aw h):
  ∃H' a T la' C o left Y left',f96 At E [.ptr A 0, .agg (jS txg)] k=some (.tuple [.agg (jS o), .int .i64 (0:Nat)],H')/\Wr { U with ws:=a} H' A t B D G .nP M left' la' C q H p R l T J/\AdT i k T H'/\WOut U.nb U.ws a v C (txg::h) (o::Y)/\left'+cp (txg::h)=N/\Ev.K { U with ws:=a} o=some left/\kT (Ev.K { U with ws:=a}) n left Aw Y:=by
 have hk:=la.ti.ok;obtain⟨H1,A3,b1,f,g1,m1,n1⟩:=box hk (.cells (jS txg) 42 1 false);obtain⟨u,A4,b2,x,g2,m2,n2⟩:=box f.ok (.cells [.int .i64 (0:Nat), .int .i64 (0:Nat), .int .u64 (0:Nat)] 42 1 false);obtain⟨j,e3,g3,s3,n3⟩:=jV x.ok g2 (l':=jS txg) rfl rfl;have a0:stN 3 (.ptr A4 0) (.agg (jS txg)) u=some (jQ,j):=e3;have N1:=f.next
 have P3:Prs k j:=(f.trans x).fresh s3 fun As hB=>by omega
 have Ad:=zRB x f.ok g1;have r1:Eng.ld1 (.ptr A3 0) u=some (.int .i64 txg.at_):=by rw[jM Ad];rfl
 have r2:ldN 3 (.ptr A3 0) u=some (.agg (jS txg)):=xB Ad rfl;have r3:ldN 3 (.ptr A4 0) j=some (.agg (jS txg)):=xB g3 rfl;have h2:=(bX m).2;have t1:(txg.at_≠((1:Nat):Int))=True:=eq_true (by omega);obtain⟨_,_,_,_,_,_,_,⟨_,a1⟩,_⟩:=zRw.1 m;obtain⟨hd,hS⟩:=kT.disk hr a1;have z: ∀r∈txg::h,r.at_≠1:=fun r hr=>by
  rcases zK.1 hr with rfl | hr
  .omega
  .exact hS r hr
 have c:cp (txg::h)=0:=by
  rw[cp,List.length_eq_zero_iff];exact List.filter_eq_nil_iff.2 fun txg hp=>by simpa using z txg hp
 refine⟨j,U.ws,i,P,v,txg,w,h,N, ?_,la.prs P3,AdT.prs P3,WOut.nil _ _ _ z,by omega,m,hd⟩;simp(maxSteps:=999999)(disch:=omega) only[f96,eZ,b1,b2,r1,t1,r2,a0,r3]
theorem zK7: ∀h,zM3 h:=by
 intro h
 induction h with
 | zero=>
  unfold zM3;intro E H Aw As At M Ad txg left la is root es q a3 dr Z P k n p nd t S hk u w K hr j y a4 a5 z;rcases uO K with⟨s,rfl,f | ⟨_,f⟩⟩ | ⟨_,N⟩
  .simp[jX]at f
  .have hc:cp (pp s::S)=1+cp S:=by rw[cY];simp[pp]
   obtain⟨left,rfl⟩: ∃l,left=l+1:=⟨left - 1,by omega⟩;refine zPK k n (by omega) u w f hr j (by omega) (fun r hr=>y r (zC _ hr)) z fun O kv x4 x6 A8 l2 C a0 a1 J o T q8=> ?_
   obtain⟨rfl,rfl⟩:=hr;have b4:(Nd.leafOf t).kids=[]:=rfl;have Y:(Nd.leafOf t).kids.length=0:=rfl;obtain⟨n,rfl⟩: ∃m,n=m+1:=⟨n - 1,by omega⟩;refine⟨O,E.ws,Z,la,is,left,[],[], ?_,C,AdT.prs (zRx C.ti.ok),T,WOut.nil _ _ _ (by simp),by simp[cp],rfl,⟨rfl,rfl⟩, ?_⟩
   .rw[Y];exact jW (by simp only[zG4,eZ,y7])
   .rw[Y,Nat.zero_mul]at o;rw[zW o]at J;exact J
  .exact zPJ (dy k) n w N hr
 | succ h ih=>
  unfold zM3;intro E H Aw As At M Ad txg left la is root es q a3 dr Z P k n p nd t S hk u w K hr j y a4 a5 z;rcases uO K with⟨s,rfl,f | ⟨_,f⟩⟩ | ⟨_,N⟩
  .simp[jX]at f
  .have hc:cp (pp s::S)=1+cp S:=by rw[cY];simp[pp]
   obtain⟨left,rfl⟩: ∃l,left=l+1:=⟨left - 1,by omega⟩;obtain⟨k,rfl⟩: ∃k',k=k'+1:=⟨k - 1,by omega⟩;have a6:Nd.size nd<=500:=by rw[hr.size];exact j.sz
   have b5:nd.kids.length<=100:=by simp only[Nd.size]at a6;omega
   refine zPK (k+1) n (by omega) u w f hr j (by omega) (fun r hr=>y r (zC _ hr)) z fun O kv x4 x6 A8 l2 C a0 a1 J o T q8=> ?_
   obtain⟨a,b,c,rl⟩:=hr;obtain⟨H8,a7,Z8,a9,b0,a2,qs,S',e8,w8,a8,b1,o8,b2,hR,b3⟩:=wkids ih k n (by omega) u (x4:=x4) (x6:=x6) (cc:=2*nd.kids.length) z rfl (by omega) nd.kids t.2 S [] E O Z left la is n l2 C rl (fun x hx=>j.kid hx) (fun r hr=>y r (zC _ hr)) (by omega) (by omega) (by omega) a0 a1 rfl (by simp) J o T q8;exact⟨H8,a7,Z8,a9,b0,a2,qs,S',e8,w8,a8,b1,o8,b2,by rw[hR.len,rl.len],⟨a,b,c,hR⟩,b3⟩
  .exact zPJ (dy k) n w N hr
theorem nodup_le: ∀ {l m:List Nat},l.Nodup->(∀x∈l,x∈m)->l.length<=m.length
 | [],_,_,_=>Nat.zero_le _
 | x::l,m,h,hs=>by
  obtain⟨f,hl⟩:=List.nodup_cons.1 h;have:=nodup_le (m:=m.erase x) hl fun y a=>(List.mem_erase_of_ne fun e:y=x=>f (e▸a)).2 (hs y (zC _ a))
  have hm:=hs x (zJ ..);have j:=List.length_erase_of_mem hm;have o:=List.length_pos_of_mem hm;rw[zR];omega
theorem zOT {E:Ev} : ∀ {T:List Ptr},T.Nodup->(∀r∈T,∃nd,Qf E p [] r=some nd)->cp T<=p.length:=by
 intro T t j;have z:((T.filter fun q=>decide (q.at_=1)).map fun q=>q.sum.toNat).Nodup:=by
  rw[List.nodup_iff_pairwise_ne,List.pairwise_map];refine(List.nodup_iff_pairwise_ne.1 (t.filter _)).imp_of_mem fun {a b} C hb o e=>o ?_
  obtain⟨J,K⟩:=List.mem_filter.1 C;obtain⟨b1,b2⟩:=List.mem_filter.1 hb;obtain⟨x,m⟩:=j a J;obtain⟨y,N⟩:=j b b1;have O: ∃s,a=pp s:=by
   obtain⟨s,e,_⟩ | ⟨_,f⟩:=uO m
   .exact⟨s,e⟩
   .have:=(bX f).2;simp at K;omega
  have pb: ∃s,b=pp s:=by
   obtain⟨s,e,_⟩ | ⟨_,f⟩:=uO N
   .exact⟨s,e⟩
   .have:=(bX f).2;simp at b2;omega
  obtain⟨s,rfl⟩:=O;obtain⟨u,rfl⟩:=pb;have S:s=u:=by simpa[pp]using e
  rw[S]
 have Y: ∀s∈(T.filter fun q=>decide (q.at_=1)).map fun q=>q.sum.toNat,s∈p.map (·.1):=fun s Z=>by
  obtain⟨r,hr,rfl⟩:=qZ.1 Z;obtain⟨r1,r2⟩:=List.mem_filter.1 hr;obtain⟨x,m⟩:=j r r1;obtain⟨u,rfl,h | ⟨_,h⟩⟩ | ⟨_,f⟩:=uO m
  .simp[jX]at h
  .have:(pp u).sum.toNat=u:=by simp[pp]
   rw[this];exact qZ.2 ⟨_,vC h,rfl⟩
  .have:=(bX f).2;simp at r2;omega
 have h3:=nodup_le z Y;simpa[cp]using h3
def Dsk (H:AH)(Ad As nb:Nat)(ws:Ws)(la:Nat)(is:Nat->Nat)(V:Nat->Prop):Prop:= ∃h a f j,DkI H Ad nb ws h a f j/\Spc H As nb la is/\(∀B,V B↔B=As\/B=Ad\/B=a\/Blk f B)/\64<=nb/\nb<=8192/\la<nb/\(2<=la\/la=0)/\(is 0≠0/\is 1≠0)/\ws.length+cnt is 0 nb<=990000
theorem Dsk.prs {H H':AH}{Ad As nb la:Nat}{ws:Ws}{is:Nat->Nat}{V:Nat->Prop}(d:Dsk H Ad As nb ws la is V)(a:H.ok)(s:Prs H H'):Dsk H' Ad As nb ws la is V:=by
 obtain⟨f,h,j,m,o,p,r⟩:=d;exact⟨f,h,j,m,o.prs a s,p.stp a s (fun x=>x),r⟩
theorem Dsk.lt {H:AH}{Ad As nb la:Nat}{ws:Ws}{is:Nat->Nat}{V:Nat->Prop}(d:Dsk H Ad As nb ws la is V)(a:H.ok): ∀B,V B->B<H.next:=by
 obtain⟨o,p,q,t,f,h,j,_⟩:=d;intro B m;rcases(j B).1 m with rfl | rfl | rfl | e
 .exact h.lt a
 .exact a.lt f.gD
 .exact a.lt f.gN
 .exact Own.lt f.ow e
end Go.Eng.Sh
end



