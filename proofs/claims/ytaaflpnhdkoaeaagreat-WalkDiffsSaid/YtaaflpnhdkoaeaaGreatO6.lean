/- Part 6: no condition. -/
import Derived.Test.YtaaflpnhdkoaeaaGreatO5
set_option linter.all false
set_option maxHeartbeats 8000000
set_option maxRecDepth 20000
open Go.Nd (Kvs Ptr delP leafOf lookP mayK putP sumL)
variable (D:Go.Eng.Dyn)(n:Nat){H B:List (Go.Eng.AV×Go.Eng.AV)}{h N:List Go.Nd.Ptr}{k v q C G J P Q R V g u:Nat}{i F m:Go.Eng.AH}{A M:Nat->Prop}{w r:Nat->Nat}{l:Go.Nd.Node}{p I Y j:Go.Eng.AV}{t U:Go.Eng.Sh.PN}{e:Go.Nd.Ptr}{s:List Go.Eng.AV}{L:Go.Nd.Kvs}{W:Go.Eng.Sh.Ev}{a:Bool}{c:Go.Bk.Ws}{f:List Go.Nd.Node}{z:Go.Nd.Ptr->Option Go.Nd.Node}
namespace Go.Eng.Sh
open Go.Nd (cP)
open Go.Bt
variable {E:Ev}{X:Nat->Prop}
def Ch.stb (H':Ch X i F k v q H t p h G J)(At:F.h.get C=some (.cells (.bool a::s) P 1 false))(A:Stp (fun B=>B=C) F m)(x:i.next<=C)(y:C≠v):Ch X i m k v q H t p h G J:=
 H'.other A (fun P=>y P.symm) (fun P=>by subst P;rw[H'.gF]at At;cases At) (fun B j P=>by subst P;rw[H'.gg.get j]at At;simp at At) (fun kv H0 B j P=>by
  subst P;obtain⟨z,u⟩:=H'.pf.mem kv H0;exact u.nblk At (.inl ⟨_,_,_,_,rfl,fun _ _ P=>by cases P⟩) j) (fun B j=>by subst j;exact x)
def xR.stb (h:xR X i p I l)(H:i.h.get k=some (.cells (.bool a::s) v 1 false))(H':Stp (fun B=>B=k) i F):xR X F p I l:=
 ⟨h.1.stp H' fun B f v=>by subst v;exact h.1.nblk H (.inl ⟨_,_,_,_,rfl,fun _ _ v=>by cases v⟩) f,h.2⟩
theorem QO (h:jZ i (.agg s) l): ∃r,s= .bool l.leaf::r/\s.length=4/\jP s=true:=by
 obtain⟨ks,vs,ps,e,a,f,j⟩:=h;simp only[AV.agg.injEq]at e;subst e;exact⟨_,rfl,rfl,YE _ _ _ _ a.row.isCell f.row.isCell j.row.isCell⟩
theorem zFI (m9 n:Nat)(hn:200000000<=n){H0 H:AH}{At Ac F M i h:Nat}{d c dr:AV}{root:Ptr}{es:List (AV×AV)}{q:PN}{l7:List (AV×AV)}{f:PN}{g:AV}{gl:List Ptr}{c4 a0:Nat}{ln lk:List AV}{nd kd:Nd.Node}{t:Bt.Tr (h+1)}{x tk:Bt.Tr h}{Sa Sb Sx:List Ptr}{lo hi:Bd}
  (ti:TI E H0 At M d c root es q c4 dr) (hold: ∀kv∈es,∀B,xS kv.2 B->B<H0.next) (l8: ∀kv∈es,∀B,xS kv.2 B-> ¬X B) (hq: ∀s nd,jX s q=some nd->s<=c4) (ch:Ch X H0 H At Ac F l7 f g gl c4 a0)
  (hv:xR X H g (.agg ln) nd) (d5:xR X H g (.agg lk) kd)
  (n1:nd.leaf=false) (n2:nd.keys=t.1) (n3:nd.vals=[]) (n4:nd.kids.length=t.2.length) (wi:Inn (WF h) lo hi t) (c6:t.1≠[]) (hz:wS t.1 t.2.length<=500) (l9:t.2[i]? =some tk)
  (ra:xT (Qf E q []) (kU (Qf E q []) h) (nd.kids.take i) (t.2.take i) Sa) (rb:xT (Qf E q []) (kU (Qf E q []) h) (nd.kids.drop (i+1)) (t.2.drop (i+1)) Sb)
  (rx:kU (Qf E q f) h kd x Sx) (wx:WX h (VO lo t.1 i) (YG t.1 hi i) x) (f2:0<h->kd.keys≠[]) (hb:a0<=700000000) (m0:gl.length+1<=a0+1000):
  ∃u H' a2 K g' i6 y J o Y G R,f129 (dy (m9+1)) n [.ptr Ac 0, .agg ln, .int .i64 (i:Nat), .agg lk] H=some (.tuple [u, .int .i64 (0:Nat)],H')/\
   Ch X H0 H' At Ac F a2 K g' i6 c4 y/\Adv Ac F H g H' g'/\xR X H' g' u J/\kU (Qf E q K) (h+1) J o Y/\Inn (WF h) lo hi o/\
   con (h+1) o=(t.2.take i).flatMap (con h)++con h x++(t.2.drop (i+1)).flatMap (con h)/\wS o.1 o.2.length<=wS t.1 t.2.length+285/\t.1.length<=o.1.length+1/\a0<=y/\y<=a0+6/\i6=gl++G/\
   Y.Perm (pps a0 (y - a0)++(R++Sx))/\(Sa++Sb).Perm (G++R)/\(∀p nd,Qf E q f p=some nd->Qf E q K p=some nd)/\G.length<=1:=by
 obtain⟨m4,rfl⟩:=qR.1 l9;have q8:=wi.2.2.len;obtain⟨rn,q9,r3,r4⟩:=QO hv.1;obtain⟨rk,m6,c1,r6⟩:=QO d5.1;obtain⟨H1,A5,b1,p1,g1,m1,r7⟩:=box ch.prs.ok (.cells ln 119 1 false);obtain⟨H2,A7,b2,p2,g2,m2,r8⟩:=box p1.ok (.cells lk 119 1 false);obtain⟨H3,A8,b3,p3,g3,m3,r9⟩:=box p2.ok (.cells [.bool false, .nS, .nS, .nS] 119 1 false);have P3:Prs H H3:=(p1.trans p2).trans p3;have m7:=zRt p3 p2.ok (zRt p2 p1.ok g1);have d6:=zRt p3 p2.ok g2;have f3:small kd:=vI (by rw[rx.size];have:=wx.sz;omega);obtain⟨z,H4,e4,rfl,p4⟩:=WL (dy (m9+1)) n P3.ok (d5.1.prs P3).node f3 hn;have O:=P3.trans p4;have d7:=zRt p4 P3.ok m7;have i8:=zRt p4 P3.ok d6;have i9:=zRt p4 P3.ok g3;have b0:=ch.step O;have N0:=ch.prs.next
 have cc:=ch.ltC;have f4: ∀p nd,Qf E q [] p=some nd->Qf E q f p=some nd:=fun p nd hp=>by
  have:=zB0 (new:=f) hq (fun s J hs=>(ch.fs s J hs).1) hp;simpa using this
 have c0: ∀ {ps:List Ptr} {ts:List (Bt.Tr h)} {S:List Ptr},xT (Qf E q []) (kU (Qf E q []) h) ps ts S->xT (Qf E q f) (kU (Qf E q f) h) ps ts S:=fun r=>r.mono (fun p _ nd hp=>f4 p nd hp) (fun nd t S1 _ hr=>hr.mono fun p _ nd hp=>f4 p nd hp)
 have m8:(i:Int)+((1:Nat):Int)=((i+1:Nat):Int):=by omega
 have s0:i<=1000:=by simp only[wS]at hz;omega
 have q5:=rx.size;by_cases e0:wK h x<160
 case neg=>
  have d2: ¬((Nd.size kd:Nat):Int)< ((160:Nat):Int):=by omega
  have fx:Full h x:=by
   cases h with
   | zero=>
    intro e;have e:x=([]:Nd.Kvs):=e;rw[e]at e0;exact e0 (by decide)
   | succ h=>exact Nat.le_of_not_lt e0
  obtain⟨u,H5,a2,K,y,J,o,Y,e5,b4,st,hu,d8,r5,w5,c5,z5,k5,l1,l2,pm,more⟩:=zBE (dy (m9+1)) n hn (i:=i) (m:=0) (h:=h) b0 d7 i8 i9 (by omega) (by have:=p1.next;omega) (by have:=p1.next;have:=p2.next;omega) (by have:=p2.next;omega) (by omega) (by have:=p1.next;have:=p2.next;omega)
   (hv.prs O) (d5.prs O) hq n1 n2 n3 n4 wi c6 hz (by simpa using m4) (c0 ra) (by simpa using c0 rb) rx (by simpa using wx) fx f2 (by omega)
  refine⟨u,H5,a2,K,g,gl,y,J,o,Y,[],Sa++Sb, ?_,b4, ?_,hu,r5,w5,by simpa using c5,z5,by omega,l1,l2,by simp, ?_,by simp,more,by simp⟩
  .simp(maxSteps:=999999)(disch:=omega) only[f129,eZ,b1,b2,b3,m8,gJ d6 c1,e4,d2];simp only[Nat.add_zero]at e5;rw[e5];rfl
  .refine⟨⟨st.ok,by have:=st.next;have:=O.next;omega,fun B N hS=> ?_⟩,fun B N=> .inl N⟩
   rw[st.keep B (by have:=O.next;omega) (fun hx=>by
    rcases hx with hx | hx
    .exact hS hx
    .have:=p1.next;have:=p2.next;omega)]
   exact O.keep B N (fun x=>x)
  .exact pm
 case pos=>
 have d2:((Nd.size kd:Nat):Int)< ((160:Nat):Int):=by omega
 have side: ∃b C tb a4 pb,nd.kids[b]? =some pb/\Qf E q [] pb=some C/\kU (Qf E q []) h C tb a4/\t.2[b]? =some tb/\
   ((b+1=i/\ ∃a5,xT (Qf E q []) (kU (Qf E q []) h) (nd.kids.take b) (t.2.take b) a5/\Sa=a5++(pb::a4))\/(i=0/\b=1/\ ∃a6,xT (Qf E q []) (kU (Qf E q []) h) (nd.kids.drop 2) (t.2.drop 2) a6/\Sb=pb::(a4++a6))):=by
  have s1:0<t.1.length:=by
   rcases Nat.eq_zero_or_pos t.1.length with e | e
   .exact absurd (zW e) c6
   .exact e
  cases i with
  | zero=>
   have h1:1<t.2.length:=by omega
   rw[show(0+1:Nat)=1 from rfl,qI h1,qI (show 1<nd.kids.length by omega)]at rb;obtain⟨C,S1,S2,q1,q2,q3,e⟩:=rb;exact⟨1,C,t.2[1],S1,_,zQ (by omega),q1,q2,zQ h1, .inr ⟨rfl,rfl,S2,q3,e⟩⟩
  | succ j=>
   have h1:j<t.2.length:=by omega
   rw[qM h1,qM (show j<nd.kids.length by omega)]at ra;obtain⟨T1,T2,r1,r2,e⟩:=ra.split j;have e1:(nd.kids.take j++[nd.kids[j]'(by omega)]).take j=nd.kids.take j:=jA (by rw[qC];omega);have e2:(nd.kids.take j++[nd.kids[j]'(by omega)]).drop j=[nd.kids[j]'(by omega)]:=yX (by rw[qC];omega);have e3:(t.2.take j++[t.2[j]]).take j=t.2.take j:=jA (by rw[qC];omega);have e4:(t.2.take j++[t.2[j]]).drop j=[t.2[j]]:=yX (by rw[qC];omega);rw[e1,e3]at r1;rw[e2,e4]at r2;obtain⟨C,S1,S2,q1,q2,q3,e5⟩:=r2;have q3:S2=[]:=q3;subst q3;exact⟨j,C,t.2[j],S1,_,zQ (by omega),q1,q2,zQ h1, .inl ⟨rfl,T1,r1,by rw[e,e5,yB]⟩⟩
 obtain⟨b,C,tb,a4,pb,kb,hs,f5,j0,l0⟩:=side;obtain⟨f6,rfl⟩:=qR.1 j0;have f7:b<nd.kids.length:=by omega
 have n0:nd.kids[b]=pb:=by rw[zQ f7]at kb;exact qT kb
 have Z:WF h (VO lo t.1 b) (YG t.1 hi b) t.2[b]:=KB.at wi.2.2 j0;have n6:=ti.prs b0.prs;obtain⟨ks,s2,ps,f8,k1,k2,k3⟩:=id (hv.prs O).1;simp only[AV.agg.injEq]at f8;obtain⟨H5,j4,b5,p5,g5,m5,n5⟩:=box b0.prs.ok (.cells [.bool false, .nS, .nS, .nS] 119 1 false);obtain⟨vb,H6,e6,p6,f9,d3⟩:=zDc m9 n hn (n6.prs p5) hs;obtain⟨lb,rfl,g0,n8⟩:=f9.cells;obtain⟨H7,e7,g7,s7,n7⟩:=jV p6.ok (zRt p6 p5.ok g5) (l':=lb) g0 n8;have j5:stN 4 (.ptr j4 0) (.agg lb) H6=some (jQ,H7):=e7;have N4:=O.next;have N5:=p5.next;have N6:=p6.next
 have a7:Prs H4 H7:=(p5.trans p6).fresh s7 (fun B N=>by omega);have b6:=b0.step a7;have i2:jZ H7 (.agg lb) C:=f9.stp s7 (fun B N e=>by
  subst e;exact f9.nblk (zRt p6 p5.ok g5) (.inl ⟨_,_,_,_,rfl,fun _ _ e=>by cases e⟩) N)
 have n9:xR X H7 g (.agg lb) C:=by
  rcases d3 with⟨kk,d3⟩ | d8
  .exact i2.hand b6 (fun B N=>hold _ d3 B N) (l8 _ d3)
  .refine⟨i2,fun B N=>⟨fun hg=> ?_,fun hx=> ?_⟩⟩
   .have h1:=d8 B N;have h2:=zRy (b0.step p5).gg.row hg;omega
   .have h1:=d8 B N;have h2:=ch.xo B hx;have h3:=(b0.step p5).prs.next
    omega
 obtain⟨g',H8,e8,b7,a8⟩:=zIk (dy (m9+1)) n b6 pb m0 (by omega);have j6:=b6.next (hv.prs (O.trans a7)) a8
 have j7:=b6.next (d5.prs (O.trans a7)) a8
 have j8:=b6.next n9 a8
 have np: ∀ {A:Nat} {l:List AV} {e:Nat},H7.h.get A=some (.cells l e 1 false)->A≠Ac-> ¬chg Ac F g A:=fun {A l e} hg c6 hc=>by
  rcases hc with e | e | e
  .exact c6 e
  .rw[e,b6.gF]at hg;cases hg
  .rw[b6.gg.get e]at hg;simp at hg
 have M1:=p1.next;have M2:=p2.next;have M3:=p3.next;have M4:=p4.next;have M7:=a7.next
 have d9:=zRt a7 O.ok d7;have j9:=zRt a7 O.ok i8;have k0:=zRt a7 O.ok i9;have g4:H8.h.get A5=some (.cells ln 119 1 false):=by rw[a8.1.keep _ (by omega) (np d9 (by omega))];exact d9
 have g6:H8.h.get A7=some (.cells lk 119 1 false):=by rw[a8.1.keep _ (by omega) (np j9 (by omega))];exact j9
 have o0:H8.h.get A8=some (.cells [.bool false, .nS, .nS, .nS] 119 1 false):=by rw[a8.1.keep _ (by omega) (np k0 (by omega))];exact k0
 have i3:H8.h.get j4=some (.cells lb 119 1 false):=by rw[a8.1.keep _ (by omega) (np g7 (by omega))];exact g7
 have k34:gY H4 ps nd.kids:=k3.row;obtain⟨q4,i4,g8⟩:=k34.at f7;obtain⟨q7,i7,g9⟩:=(k34.prs a7).at f7;rw[n0]at g8 g9;obtain rfl:q7=q4:=by
  have e1:=i4 .i64 b rfl;rw[i7 .i64 b rfl]at e1;exact qT e1
 have i5:small C:=vI (by rw[f5.size];have:=Z.sz;omega);have b8:kU (Qf E q f) h C t.2[b] a4:=f5.mono fun p _ nd hp=>f4 p nd hp
 have k4:0<h->C.keys≠[]:=fun hh=>by
  cases h with
  | zero=>omega
  | succ h=>
   have:=X3 Z;rw[f5.2.1];intro e;rw[e]at this;simp at this
 have k6: ¬(((0:Nat):Int)≠((0:Nat):Int)):=by omega
 have b9: ∀Hx:AH,Hx.h.get A5=some (.cells ln 119 1 false)->ld1 (.ptr A5 3) Hx=some ps/\ld1 (.ptr A5 1) Hx=some ks:=fun Hx hg=>by
  rw[jM hg,jM hg,f8];exact⟨rfl,rfl⟩
 have k7:Strs H8 ks nd.keys:=by
  obtain⟨s3,vs',s4,d4,j1,j2,j3⟩:=id j6.1;simp only[AV.agg.injEq]at d4;rw[f8]at d4;simp only[y8,and_true]at d4;obtain⟨_,rfl,_,_⟩:=d4;exact j1.row
 have k8: ∀(j m:Nat) (sep:Str) (u:AV) (c7:Nd.Node) (x':Bt.Tr h) (h0 a5 a6:List Ptr) (H9:AH),Prs H8 H9->YF H8 H9 u c7->kU (Qf E q f) h c7 x' h0->WX h (VO lo t.1 j) (YG t.1 hi (j+m)) x'->Full h x'->(0<h->c7.keys≠[])->j+m<t.2.length->
   xT (Qf E q f) (kU (Qf E q f) h) (nd.kids.take j) (t.2.take j) a5->xT (Qf E q f) (kU (Qf E q f) h) (nd.kids.drop (j+m+1)) (t.2.drop (j+m+1)) a6->
   ∃a9,stN 4 (.ptr A7 0) u H9=some (jQ,a9)/\ ∃u H' a2 K y J o Y,zCk (dy (m9+1)) n [.ptr Ac 0, .ptr A5 0, .ptr A7 0, .ptr A8 0, .int .i64 (j:Nat), .int .i64 (j+m+1:Nat)] a9=some (.ret (.tuple [u, .int .i64 (0:Nat)]),H')/\
    Ch X H0 H' At Ac F a2 K g' (gl++[pb]) c4 y/\Adv Ac F H g H' g'/\xR X H' g' u J/\kU (Qf E q K) (h+1) J o Y/\Inn (WF h) lo hi o/\
    con (h+1) o=(t.2.take j).flatMap (con h)++con h x'++(t.2.drop (j+m+1)).flatMap (con h)/\wS o.1 o.2.length<=wS t.1 t.2.length+285/\t.1.length<=o.1.length+m/\a0<=y/\y<=a0+6/\
    Y.Perm (pps a0 (y - a0)++(a5++a6++h0))/\ ∀p nd,Qf E q f p=some nd->Qf E q K p=some nd:=by
  intro j m sep u c7 x' h0 a5 a6 H9 p9 w9 o1 o2 o3 l3 c8 h4 h5;have k9:=w9.free;obtain⟨lu,rfl,s5,o4⟩:=k9.1.cells;have o5:=b7.step p9;have o6:xR X H9 g' (.agg lu) c7:=vW.hand b7 (zM _) k9;have c9:=zRt p9 b7.prs.ok g6;obtain⟨a9,c2,o7,c3,s6⟩:=jV p9.ok c9 (l':=lu) (by omega) o4;have l4:stN 4 (.ptr A7 0) (.agg lu) H9=some (jQ,a9):=by rw[c1]at c2;exact c2
  rw[m6]at c9;have l5:=o5.stb c9 c3 (by omega) (by omega);have N8:=a8.1.next;have N9:=p9.next
  have o8:a9.h.get A5=some (.cells ln 119 1 false):=by rw[c3.keep _ (by omega) (by omega)];exact zRt p9 b7.prs.ok g4
  have o9:a9.h.get A8=some (.cells [.bool false, .nS, .nS, .nS] 119 1 false):=by rw[c3.keep _ (by omega) (by omega)];exact zRt p9 b7.prs.ok o0
  obtain⟨u',H',a2,K,y,J,o,Y,e5,b4,st,hu,d8,r5,w5,c5,z5,k5,l1,l2,pm,more⟩:=zBE (dy (m9+1)) n hn (i:=j) (m:=m) (h:=h) l5 o8 o7 o9 (by omega) (by omega) (by omega) (by omega) (by omega) (by omega)
   ((j6.prs p9).stb c9 c3) (o6.stb c9 c3) hq n1 n2 n3 n4 wi c6 hz c8 h4 h5 o1 o2 o3 l3 (by omega)
  refine⟨a9,l4,u',H',a2,K,y,J,o,Y,e5,b4, ?_,hu,r5,w5,c5,z5,k5,l1,l2,pm,more⟩;refine⟨⟨st.ok,by have:=st.next;omega,fun B N hS=> ?_⟩,fun B N=> ?_⟩
  .have a1:H8.h.get B=H.h.get B:=by
    rw[a8.1.keep B (by omega) hS,a7.keep B (by omega) (fun x=>x)];exact O.keep B N (fun x=>x)
   rw[st.keep B (by omega) (fun hx=>by
    rcases hx with hx | hx
    .rcases hx with e | e | e
     .exact hS (.inl e)
     .exact hS (.inr (.inl e))
     .rcases a8.2 B e with e | e
      .exact hS (.inr (.inr e))
      .omega
    .omega),c3.keep B (by omega) (by omega),p9.keep B (by omega) (fun x=>x)]
   exact a1
  .rcases a8.2 B N with e | e
   .exact .inl e
   .exact .inr (by omega)
 rcases l0 with⟨p0,a5,h4,rfl⟩ | ⟨rfl,rfl,a6,h5,rfl⟩
 ·
  subst p0;have T:b<t.1.length:=by omega
  have a3:=wi.1 _ (yM T);have s8:t.1.getD b []=t.1[b]:=by rw[qK,zQ T];rfl
  have h6:YG t.1 hi b=some t.1[b]:=by simp only[YG,zQ T]
  have h7:VO lo t.1 (b+1)=some t.1[b]:=by simp only[VO,zQ T]
  rw[h6]at Z;rw[h7]at wx;have c8:=zEC b8 rx Z.gen wx.gen a3.1 k4 f2 (kU.kidOk b8) (kU.kidOk rx);obtain⟨u,H9,e9,p9,w9⟩:=zI5 (dy (m9+1)) n hn b7.prs.ok (sep:=t.1[b]) j8.1.node j7.1.node i5 f3;rw[c8]at e9 w9;simp only[if_true]at e9 w9;have d0:=UR a3.1;have js:=XF h t.2[b] t.1[b] x d0;have wj:WX h (VO lo t.1 b) (YG t.1 hi (b+1)) (QV h t.2[b] t.1[b] x):=Gen.wx (zED Z.gen wx.gen ⟨a3.1,by
   have q6:=KB.at wi.2.2 (zQ f6)
   cases b with
   | zero=>exact a3.2.1
   | succ b'=>
    simp only[VO,zQ (show b'<t.1.length by omega)];have:=(Nd.rising_ix ltS t.1).1 wi.2.1 b' T;exact this,by
   by_cases e:b+1<t.1.length
   .simp only[YG,zQ e];exact(Nd.rising_ix ltS t.1).1 wi.2.1 b e
   .simp only[YG,List.getElem?_eq_none (show t.1.length<=b+1 by omega)];exact a3.2.2⟩) (by have:=Z.sz;omega)
  obtain⟨a9,c2,u',H',a2,K,y,J,o,Y,e5,b4,h8,hu,r5,w5,c5,z5,k5,l1,l2,pm,more⟩:=k8 b 1 t.1[b] u _ _ (a4++Sx) a5 Sb H9 p9 w9 (kU.join b8 rx t.1[b]) wj (zC7 d0 (.inl Z.full)) (fun hh e=>by
   cases h with
   | zero=>omega
   | succ h=>
    have:(cP C t.1[b] kd).keys=C.keys++([t.1[b]]++kd.keys):=by simp only[cP,b8.1,zL,qD]
    rw[this]at e;simp at e) (by omega) (c0 h4) (c0 rb)
  refine⟨u',H',a2,K,g',gl++[pb],y,J,o,Y,[pb],a5++(a4++Sb), ?_,b4,h8,hu,r5,w5, ?_,z5,k5,l1,l2,rfl, ?_, ?_,more,by simp⟩
  .have p7:((b+1:Nat):Int) - ((1:Nat):Int)=((b:Nat):Int):=by omega
   have p8: ¬((b+1:Nat):Int)=((0:Nat):Int):=by omega
   have h9:mn2 (.int .i64 (b+1:Nat)) (.int .i64 ((b:Nat):Int))=some (.int .i64 ((b:Nat):Int)):=by
    have:ilt ((b:Nat):Int) ((b+1:Nat):Int)=true:=by rw[uO];simp;omega
    simp only[mn2,this,zP]
   have i0:mx2 (.int .i64 (b+1:Nat)) (.int .i64 ((b:Nat):Int))=some (.int .i64 (b+1:Nat)):=by
    have:ilt ((b+1:Nat):Int) ((b:Nat):Int)=false:=by rw[uO];simp;omega
    simp only[mx2,this,qH]
   have f1:((b:Nat):Int)< ((b+1:Nat):Int):=by omega
   have l6:((b+1:Nat):Int)+((1:Nat):Int)=((b+1+1:Nat):Int):=by omega
   obtain⟨qk,ik,d1⟩:=k7.at (i:=b) (by rw[n2];exact T);have i1:nd.keys[b]'(by rw[n2];exact T)=t.1[b]:=by simp[n2]
   rw[i1]at d1;simp(config:= { maxSteps:=2000000}) (disch:=omega) only[f129,eZ,b1,b2,b3,l6,gJ d6 c1,e4,d2,p7,p8,zEU,jM b0.gC,(b9 H4 d7).1,i4,g8,b5,e6,jN,nth,j5,k6,(b9 H7 d9).1,i7,g9,e8,h9,i0,f1,gJ i3 g0,(b9 H8 g4).2,ik,d1,gJ g6 c1,e9,c2,zCl,e5]
  .rw[c5,zF9,qM f6,yV,qJ,List.flatMap_nil,yB];simp only[zZ]
  .rw[List.perm_iff_count]at pm⊢;intro a;have:=pm a;simp only[List.count_append,List.count_cons]at this⊢;omega
  .rw[List.perm_iff_count];intro a;simp only[List.count_append,List.count_cons,List.count_nil];omega
 ·
  have T:0<t.1.length:=by omega
  have a3:=wi.1 _ (yM T);have h6:YG t.1 hi 0=some t.1[0]:=by simp only[YG,zQ T]
  have h7:VO lo t.1 1=some t.1[0]:=by simp only[VO,zQ T]
  rw[h7]at Z;rw[h6]at wx;have c8:=zEC rx b8 wx.gen Z.gen a3.1 f2 k4 (kU.kidOk rx) (kU.kidOk b8);obtain⟨u,H9,e9,p9,w9⟩:=zI5 (dy (m9+1)) n hn b7.prs.ok (sep:=t.1[0]) j7.1.node j8.1.node f3 i5;rw[c8]at e9 w9;simp only[if_true]at e9 w9;have d0:=UR a3.1;have js:=XF h x t.1[0] t.2[1] d0;have wj:WX h (VO lo t.1 0) (YG t.1 hi (0+1)) (QV h x t.1[0] t.2[1]):=Gen.wx (zED wx.gen Z.gen ⟨a3.1,a3.2.1,by
   by_cases e:1<t.1.length
   .simp only[YG,zQ (show 0+1<t.1.length by omega)];exact(Nd.rising_ix ltS t.1).1 wi.2.1 0 (by omega)
   .simp only[YG,List.getElem?_eq_none (show t.1.length<=0+1 by omega)];exact a3.2.2⟩) (by have:=Z.sz;omega)
  obtain⟨a9,c2,u',H',a2,K,y,J,o,Y,e5,b4,h8,hu,r5,w5,c5,z5,k5,l1,l2,pm,more⟩:=k8 0 1 t.1[0] u _ _ (Sx++a4) Sa a6 H9 p9 w9 (kU.join rx b8 t.1[0]) wj (zC7 d0 (.inr Z.full)) (fun hh e=>by
   cases h with
   | zero=>omega
   | succ h=>
    have:(cP kd t.1[0] C).keys=kd.keys++([t.1[0]]++C.keys):=by simp only[cP,rx.1,zL,qD]
    rw[this]at e;simp at e) (by omega) (c0 ra) (c0 h5)
  refine⟨u',H',a2,K,g',gl++[pb],y,J,o,Y,[pb],Sa++(a4++a6), ?_,b4,h8,hu,r5,w5, ?_,z5,k5,l1,l2,rfl, ?_, ?_,more,by simp⟩
  .have h9:mn2 (.int .i64 (0:Nat)) (.int .i64 (1:Nat))=some (.int .i64 (0:Nat)):=rfl;have i0:mx2 (.int .i64 (0:Nat)) (.int .i64 (1:Nat))=some (.int .i64 (1:Nat)):=rfl;have f1: ¬((1:Nat):Int)< ((0:Nat):Int):=by omega
   have h11:((1:Nat):Int)+((1:Nat):Int)=((0+1+1:Nat):Int):=by omega
   obtain⟨qk,ik,d1⟩:=k7.at (i:=0) (by rw[n2];exact T);have i1:nd.keys[0]'(by rw[n2];exact T)=t.1[0]:=by simp[n2]
   rw[i1]at d1;simp(config:= { maxSteps:=2000000}) (disch:=omega) only[f129,eZ,b1,b2,b3,gJ d6 c1,e4,d2,zEU,jM b0.gC,(b9 H4 d7).1,i4,g8,b5,e6,jN,nth,j5,k6,(b9 H7 d9).1,i7,g9,e8,h9,i0,f1,h11,gJ i3 g0,(b9 H8 g4).2,ik,d1,gJ g6 c1,e9,c2,zCl,e5]
  .have e1:t.2.drop (0+1)=t.2[1]::t.2.drop 2:=qI f6;rw[c5,zF9,e1];simp only[List.take_zero,List.flatMap_nil,qX,qJ,zZ,show 0+1+1=2 from rfl]
  .rw[List.perm_iff_count]at pm⊢;intro a;have:=pm a;simp only[List.count_append,List.count_cons]at this⊢;omega
  .rw[List.perm_iff_count];intro a;simp only[List.count_append,List.count_cons,List.count_nil];omega
end Go.Eng.Sh
namespace Go.Bt
open Go.Nd (Str)
open Go.Eng (ltS)
inductive Ed
 | put (k v:Str)
 | del (k:Str)
def Ed.key:Ed->Str
 | .put k _=>k
 | .del k=>k
def Ed.run:Ed->Kvs->Option Kvs
 | .put k v,l=>some (putP k v l)
 | .del k,l=>if(lookP k l).isSome then some (delP k l)else none
def Ed.ok:Ed->Prop
 | .put k v=>mayK k=true/\v.length<=200
 | .del k=>mayK k=true
theorem Ed.run_mid (ed:Ed){A C B:Kvs}(a: ∀p∈A,ltS p.1 ed.key=true)(f: ∀p∈B,ltS ed.key p.1=true):ed.run (A++C++B)=(ed.run C).map fun c=>A++c++B:=by
 cases ed with
 | put k v=>simp only[Ed.run,qB,zNO (k:=k) a f]
 | del k=>
  simp only[Ed.run,zKP (k:=k) a f,zJ5 (k:=k) a f];split<;>rfl
theorem Ed.leaf {ed:Ed}{lo hi:Bd}{l':Kvs}(a:Lf lo hi L)(hl:zHX lo ed.key)(h:hiB hi ed.key)(f:ed.ok)(hr:ed.run L=some l'):Lf lo hi l'/\wQ l'<=wQ L+242:=by
 cases ed with
 | put k v=>
  simp only[Ed.run,zB]at hr;subst hr;exact zKQ a hl h f.1 f.2
 | del k=>
  simp only[Ed.run]at hr;split at hr
  .simp only[zB]at hr;subst hr;have:=zKR k a;exact⟨this.1,by omega⟩
  .cases hr
end Go.Bt
namespace Go.Eng.Sh
open Go.Bt
variable {X:Nat->Prop}
def edF (ed:Ed)(K V:Nat):AV:=match ed with
 | .put _ _=> .func 88 [] [.ptr K 0, .ptr V 0]
 | .del _=> .func 83 [] [.ptr K 0]
def edB (H:AH)(ed:Ed)(K V:Nat):Prop:=match ed with
 | .put k v=>Box H K (S k)/\Box H V (S v)
 | .del k=>Box H K (S k)
theorem edB.prs {ed:Ed}(h:edB i ed k v)(a:i.ok)(s:Prs i F):edB F ed k v:=by
 cases ed with
 | put H H'=>exact⟨h.1.mono a s (fun x=>x),h.2.mono a s (fun x=>x)⟩
 | del H=>exact Box.mono h a s (fun x=>x)
def edL (ed:Ed)(l:Kvs):Nd.Node×Nat:=match ed.run l with
 | some l'=>(leafOf l',0)
 | none=>(nd0,5)
theorem zLa (m:Nat)(hm:200000000<=m)(N:i.ok){ed:Ed}{lo hi:Bd}(hv:jZ i p (leafOf L))(q:Lf lo hi L)(hz:wQ L<=10000)(ho:ed.ok)(hb:edB i ed k v):
  ∃u H',(match ed with | .put _ _=>f88 (dy m) m [p, .ptr k 0, .ptr v 0] i | .del _=>f83 (dy m) m [p, .ptr k 0] i)=some (.tuple [u, .int .i64 ((edL ed L).2:Nat)],H')/\Prs i H'/\vW i.next H' u (edL ed L).1:=by
 have a1:Nd.shaped ltS (leafOf L)=true:=Nd.leaf_shaped q.1 fun K hp=>(q.2 K hp).2.2
 obtain⟨lv,rfl,a0,a7⟩:=hv.cells;obtain⟨H1,A3,b1,t,g1,m1,n1⟩:=box N (.cells lv 119 1 false);obtain⟨H2,A4,b2,O,g2,m2,n2⟩:=box t.ok (.cells [.bool false, .nS, .nS, .nS] 119 1 false);have f:=t.trans O;have a2:small (leafOf L):=vI hz;have N1:=t.next;have N2:=O.next
 have a3: ∀ {u:AV} {nd:Nd.Node} {y:AH},Prs H2 y->vW H2.next y u nd-> ∃a,stN 4 (.ptr A4 0) u y=some (jQ,a)/\Prs i a/\vW i.next a u nd/\ldN 4 (.ptr A4 0) a=some u:=fun {u nd y} o Y=>by
  obtain⟨lu,rfl,a4,a5⟩:=Y.1.cells;obtain⟨a,z,g4,s4,n4⟩:=jV o.ok (zRt o f.ok g2) (l':=lu) a4 a5;refine⟨a,z,(f.trans o).fresh s4 (fun B Z=>by omega),⟨Y.1.stp s4 (fun B Z e=> ?_),fun B Z=>by have:=Y.2 B Z;omega⟩,gJ g4 a4⟩;have:=Y.2 B Z;omega
 cases ed with
 | put H x=>
  obtain⟨u,y,j,o,S⟩:=zKB (dy m) m hm f.ok (key:=H) (value:=x) (hv.prs f) a2;have a6:zFG (leafOf L) H x=true:=by simp only[zFG,a1,show(leafOf L).leaf=true from rfl,ho.1,ho.2,Bool.true_and,decide_true]
  rw[a6]at j S;simp only[if_true,Nd.put_leaf _ _ q.1]at j S;obtain⟨a,z,P4,C,l4⟩:=a3 o S;refine⟨u,a, ?_,P4,C⟩;simp(maxSteps:=999999)(disch:=omega) only[f88,eZ,b1,b2,gJ (zRt O t.ok g1) a0,(hb.1.mono N f (fun x=>x)).ld,(hb.2.mono N f (fun x=>x)).ld,j,jN,nth,z,l4,edL,Ed.run]
 | del H=>
  obtain⟨u,y,j,o,S⟩:=zLj (dy m) m hm f.ok (key:=H) (hv.prs f) a2;have h:zPr (leafOf L) H=if(Nd.lookP H L).isSome then 0 else 5:=by
   simp only[zPr,a1,show(leafOf L).leaf=true from rfl,qP,if_true,Nd.here_look _ q.1]
  obtain⟨a,z,P4,C,l4⟩:=a3 o S
  cases T:(Nd.lookP H L).isSome with
  | true=>
   rw[T]at h;simp only[if_true]at h;rw[h]at j;simp only[h,if_true,Nd.del_leaf _ q.1 ((Nd.here_look _ q.1).trans T)]at C;have J:edL (.del H) L=(leafOf (Nd.delP H L),0):=by simp only[edL,Ed.run,T,if_true]
   refine⟨u,a, ?_,P4,by rw[J];exact C⟩;rw[J];simp(maxSteps:=999999)(disch:=omega) only[f83,eZ,b1,b2,gJ (zRt O t.ok g1) a0,(Box.mono hb N f (fun x=>x)).ld,j,jN,nth,z,l4]
  | false=>
   rw[T]at h;simp only[zL,qD]at h;rw[h]at j;have h5: ¬(5:Nat)=0:=by decide
   simp only[h,h5,qD]at C;have J:edL (.del H) L=(nd0,5):=by simp only[edL,Ed.run,T,zL,qD]
   refine⟨u,a, ?_,P4,by rw[J];exact C⟩;rw[J];simp(maxSteps:=999999)(disch:=omega) only[f83,eZ,b1,b2,gJ (zRt O t.ok g1) a0,(Box.mono hb N f (fun x=>x)).ld,j,jN,nth,z,l4]
theorem zIY (m n:Nat)(hm:200000000<=m)(a:i.ok){ed:Ed}{lo hi:Bd}(f:jZ i p (leafOf L))(h:Lf lo hi L)(j:wQ L<=10000)(o:ed.ok)(hb:edB i ed k v):
  ∃u H',callV [(76,f76 (dy (m+1)) n),(77,f77 (dy (m+1)) n),(79,f79 (dy (m+1)) n),(129,f129 (dy (m+1)) n),(130,f130 (dy (m+1)) n)] (dy (m+1)) (edF ed k v) [p] i=some (.tuple [u, .int .i64 ((edL ed L).2:Nat)],H')/\callV [(127,f127 (dy (m+1)) n),(126,f126 (dy (m+1)) n),(131,f131 (dy (m+1)) n)] (dy (m+1)) (edF ed k v) [p] i=some (.tuple [u, .int .i64 ((edL ed L).2:Nat)],H')/\Prs i H'/\vW i.next H' u (edL ed L).1:=by
 obtain⟨u,H',e,K,w⟩:=zLa m hm a f h j o hb;refine⟨u,H', ?_, ?_,K,w⟩
 .cases ed with
  | put H x=>exact e
  | del H=>exact e
 .cases ed with
  | put H x=>exact e
  | del H=>exact e
def zG5 (Bd a f h j m:Nat):AV:= .func 128 [] [.ptr Bd 0, .ptr a 0, .ptr f 0, .ptr h 0, .ptr j 0, .ptr m 0]
structure Cl (H0 H:AH)(At Ac K V:Nat)(ed:Ed)(Bd Bt Be Bk Bf Bc d:Nat):Prop where
 bd:Box H Bd (.int .i64 (d:Nat))
 bt:Box H Bt (.ptr At 0)
 be:Box H Be (edF ed K V)
 bk:Box H Bk (S ed.key)
 bf:Box H Bf (zG5 Bd Bt Be Bk Bf Bc)
 bc:Box H Bc (.ptr Ac 0)
 eb:edB H0 ed K V
 fr:H0.next<=Bd
 n1:Bt≠Bd
 n2:Be≠Bd
 n3:Bk≠Bd
 n4:Bf≠Bd
 n5:Bc≠Bd
def _root_.Go.Eng.Box.nchg (H0:Box F J I)(a:Ch X i F k v q H t p h C G): ¬chg v q p J:=fun j=>by
 obtain⟨e,H0⟩:=H0;rcases j with rfl | rfl | j
 .rw[a.gC]at H0;simp at H0
 .rw[a.gF]at H0;cases H0
 .rw[a.gg.get j]at H0;simp at H0
def Cl.keep {ed:Ed}{H0 x:Nat}(H':Cl i F k v C G ed J P Q R V g u)(a:Ch X i F k v q H t p h H0 x)(s:Stp (chg v q p) F m):Cl i m k v C G ed J P Q R V g u:=
 ⟨H'.bd.mono a.prs.ok s (H'.bd.nchg a),H'.bt.mono a.prs.ok s (H'.bt.nchg a),H'.be.mono a.prs.ok s (H'.be.nchg a),H'.bk.mono a.prs.ok s (H'.bk.nchg a),H'.bf.mono a.prs.ok s (H'.bf.nchg a),H'.bc.mono a.prs.ok s (H'.bc.nchg a),H'.eb,H'.fr,H'.n1,H'.n2,H'.n3,H'.n4,H'.n5⟩
def Cl.prs {ed:Ed}(h:Cl i F k v q C ed G J P Q R V g)(a:F.ok)(s:Prs F m):Cl i m k v q C ed G J P Q R V g:=
 ⟨h.bd.mono a s (fun x=>x),h.bt.mono a s (fun x=>x),h.be.mono a s (fun x=>x),h.bk.mono a s (fun x=>x),h.bf.mono a s (fun x=>x),h.bc.mono a s (fun x=>x),h.eb,h.fr,h.n1,h.n2,h.n3,h.n4,h.n5⟩
theorem Cl.deeper {ed:Ed}{At H0:Nat}(m:Cl i F k v C G ed J P Q R V g u)(a:Ch X i F k v q H t p h At H0):
  ∃H',stN 1 (.ptr J 0) (.int .i64 (u+1:Nat)) F=some (jQ,H')/\Cl i H' k v C G ed J P Q R V g (u+1)/\Ch X i H' k v q H t p h At H0/\Stp (fun B=>B=J) F H':=by
 obtain⟨H',e,b,s⟩:=m.bd.st a.prs.ok (x:= .int .i64 (u+1:Nat)) rfl;have o:=m.bd.nchg a;obtain⟨Y,S⟩:=m.bd;refine⟨H',e,⟨b,m.bt.mono a.prs.ok s m.n1,m.be.mono a.prs.ok s m.n2,m.bk.mono a.prs.ok s m.n3,m.bf.mono a.prs.ok s m.n4,m.bc.mono a.prs.ok s m.n5,m.eb,m.fr,m.n1,m.n2,m.n3,m.n4,m.n5⟩, ?_,s⟩;exact a.other s (fun e=>o (.inl e.symm)) (fun e=>o (.inr (.inl e.symm))) (fun B j e=>o (.inr (.inr (e▸j)))) (fun kv N B j e=>by
  subst e;obtain⟨T,O⟩:=a.pf.mem kv N;exact O.nblk S (.inl ⟨_,_,_,_,rfl,fun _ _ e=>by cases e⟩) j) (fun B j=>by rw[j];exact m.fr)
variable {E:Ev}
theorem dZ {ks:List Str}(hl:l.leaf=false)(a:l.keys=ks)(key:Str):Nd.whereN l key=xL ks key:=by
 simp only[Nd.whereN,xL,hl,a,Bool.not_false,Bool.true_and]
theorem ZL: ∀ {n a:Nat} {p:Ptr},p∈pps a n-> ∃j,p=pp j/\a<j/\j<=a+n
 | 0,_,_,h=>by simp[pps]at h
 | n+1,a,p,h=>by
  rcases zK.1 h with rfl | h
  .exact⟨a+1,rfl,by omega,by omega⟩
  .obtain⟨j,e,f,m⟩:=ZL h;exact⟨j,e,by omega,by omega⟩
theorem WV: ∀(n a:Nat),(pps a n).Nodup
 | 0,_=>by simp[pps]
 | n+1,a=>by
  rw[pps,List.nodup_cons];refine⟨fun h=> ?_,WV n (a+1)⟩;obtain⟨j,e,f,_⟩:=ZL h;have:=JH e;omega
def zP8 (E:Ev)(X:Nat->Prop)(H0 H H':AH)(At J F K V:Nat)(ed:Ed)(Y Z B3 B4 B5 B6 d:Nat)(q:PN)(f:PN)(g x:AV)(gl:List Ptr)(O o:Nat)(h:Nat)(lo hi:Bd)(t:Bt.Tr h)(S:List Ptr)(p:Ptr)(u:AV)(c':Kvs):Prop:=
 ∃T y z a d' C N G R Fr,∃m:Bt.Tr h,Ch X H0 H' At J F T y x z O a/\Cl H0 H' At J K V ed Y Z B3 B4 B5 B6 d'/\xR X H' x u C/\kU (Qf E q y) h C m N/\WX h lo hi m/\con h m=c'/\(0<h->VV h t<=VV h m+1)/\z=gl++G/\G.length<=2*(h+1)/\
  o<=a/\a<=o+6*h/\d'<=d+h+1/\N.Perm (Fr++R)/\(p::S).Perm (G++R)/\Fr.Nodup/\(∀p∈Fr,∃j,p=pp j/\o<j/\j<=a)/\(∀p nd,Qf E q f p=some nd->Qf E q y p=some nd)/\ ∀B,Blk x B->Blk g B\/H.next<=B
theorem zGC{ed:Ed}{A7 K S e7:Nat}{a3 O:Nat}
  (o:Ch X i F k v q H t p h a3 O) (cl:Cl i F k v C G ed J P Q R V g u) (g7:F.h.get A7=some (.cells (jS e) e7 1 false)) (g8:F.h.get K=some (.cells [.bool false, .nS, .nS, .nS] 119 1 false)) (Z:F.h.get S=some (.cells s 119 1 false))
  (hu:xR X F p (.agg s) l) (h8:i.next<=K) (a5:K≠v) (b6:A7≠v) (a6:S≠v) (hl:h.length+1<=O+1000) (hb:O<=900000000):
  ∃At H',JN D n [.ptr g 0, .ptr A7 0, .ptr K 0, .ptr S 0, .int .i64 (0:Nat)] F=some (.ret (.tuple [.agg s, .int .i64 (0:Nat)]),H')/\Ch X i H' k v q H t At (h++[e]) a3 O/\Cl i H' k v C G ed J P Q R V g u/\xR X H' At (.agg s) l/\
   Stp (fun B=>chg v q p B\/B=K) F H'/\ ∀B,Blk At B->Blk p B\/F.next<=B:=by
 obtain⟨a0,a8⟩:s.length=4/\jP s=true:=by
  obtain⟨_,_,a,b⟩:=QO hu.1;exact⟨a,b⟩
 obtain⟨At,N,e1,a2,y⟩:=zIk D n o e hl hb;have np: ∀ {A:Nat} {B1:List AV} {B2:Nat},F.h.get A=some (.cells B1 B2 1 false)->A≠v-> ¬chg v q p A:=fun {A B1 B2} z a9 hc=>by
  rcases hc with B2 | B2 | B2
  .exact a9 B2
  .rw[B2,o.gF]at z;cases z
  .rw[o.gg.get B2]at z;simp at z
 have lt: ∀ {A:Nat} {B1:List AV} {B2:Nat},F.h.get A=some (.cells B1 B2 1 false)->A<F.next:=fun z=>o.prs.ok.lt z
 have H0:N.h.get K=some (.cells [.bool false, .nS, .nS, .nS] 119 1 false):=by rw[y.1.keep _ (lt g8) (np g8 a5)];exact g8
 have a7:N.h.get S=some (.cells s 119 1 false):=by rw[y.1.keep _ (lt Z) (np Z a6)];exact Z
 have b0:=o.next hu y
 have j:=cl.keep o y.1;obtain⟨T,e2,b1,Y,n2⟩:=jV a2.prs.ok H0 (l':=s) a0 a8;have b2:stN 4 (.ptr K 0) (.agg s) N=some (jQ,T):=e2;have b3:=a2.stb H0 Y h8 a5;have nb: ∀ {A:Nat} {x:AV},Box N A x->(∀b,x≠ .bool b)->A≠K:=fun {A x} hb hx B2=>by
  obtain⟨_,hb⟩:=hb;rw[B2,H0]at hb;simp at hb
 have b4:Cl i T k v C G ed J P Q R V g u:=by
  have m: ∀ {A:Nat} {x:AV},Box N A x->Box T A x:=fun {A x} hb=>hb.mono a2.prs.ok Y (fun B2=>by
   obtain⟨_,hb⟩:=hb;rw[B2,H0]at hb;simp at hb)
  exact⟨m j.bd,m j.bt,m j.be,m j.bk,m j.bf,m j.bc,j.eb,j.fr,j.n1,j.n2,j.n3,j.n4,j.n5⟩
 refine⟨At,T, ?_,b3,b4,b0.stb H0 Y,(y.1.mono fun _ _ x=> .inl x).trans (Y.mono fun _ _ x=> .inr x),y.2⟩;have b5: ¬(((0:Nat):Int)≠((0:Nat):Int)):=by omega
 simp(maxSteps:=999999)(disch:=omega) only[JN,eZ,b5,cl.bc.ld,jR g7,zNq,qB,e1,gJ a7 a0,b2,gJ b1 a0]
theorem zGD{B6 e:Nat}(x y:AV)(p:i.ok)(q:i.h.get k=some (.cells [.bool false, .nS, .nS, .nS] 119 1 false))(z:e≠0):
  ∃H',JN D n [.ptr B6 0,x, .ptr k 0,y, .int .i64 (e:Nat)] i=some (.ret (.tuple [.agg [.bool false, .nS, .nS, .nS], .int .i64 (e:Nat)]),H')/\Stp (fun B=>B=k) i H':=by
 obtain⟨f,t,j,u,C⟩:=jV p q (l':=[.bool false, .nS, .nS, .nS]) rfl rfl;have m:stN 4 (.ptr k 0) (.agg [.bool false, .nS, .nS, .nS]) i=some (jQ,f):=t;refine⟨f, ?_,u⟩;have o:(e:Int)≠((0:Nat):Int):=by omega
 simp(maxSteps:=999999)(disch:=omega) only[JN,eZ,o,ne_eq,yD,ZW,m,gJ j rfl]
theorem zLx (M n a f h j m B6:Nat)(x:AV)(H:AH):callV [(76,f76 (dy (M+1)) n),(77,f77 (dy (M+1)) n),(79,f79 (dy (M+1)) n),(129,f129 (dy (M+1)) n),(130,f130 (dy (M+1)) n)] (dy (M+1)) (zG5 a f h j m B6) [x] H=f128 (dy M) M [x, .ptr a 0, .ptr f 0, .ptr h 0, .ptr j 0, .ptr m 0, .ptr B6 0] H:=rfl
noncomputable def zOJ (D:Dyn)(n:Nat)(x3 x4 x5 x6 f h a:AV)(H:AH):Rs:=
 bV (fAd 0 a) fun u=>
 bV (ld1 u H) fun x=>
 jn (cnd x (bV (ld1 x3 H) fun y=>
 bV (ldN 4 a H) fun z=>
 bR (callV [(76,f76 D n),(77,f77 D n),(79,f79 D n),(129,f129 D n),(130,f130 D n)] D y [z] H) fun j H=>
 bV (jN j 0) fun C=>
 bV (jN j 1) fun J=>
 bR (stN 4 a C H) fun _ H=>
 some (.norm [x6,f,h,a,J],H))
 (bV (ldN 4 a H) fun K=>
 bV (ld1 x4 H) fun N=>
 bR (f79 D n [K,N] H) fun m H=>
 bA (bxV 119 (.agg [(.bool false), .nS, .nS, .nS])) H fun o H=>
 bV (ld1 x5 H) fun O=>
 bV (fAd 3 a) fun S=>
 bV (ld1 S H) fun T=>
 bV (dV 3 T m) fun Y=>
 bV (ldN 3 Y H) fun Z=>
 bR (callV [(76,f76 D n),(77,f77 D n),(79,f79 D n),(129,f129 D n),(130,f130 D n)] D O [Z] H) fun p H=>
 bV (jN p 0) fun a0=>
 bV (jN p 1) fun q=>
 bR (stN 4 o a0 H) fun _ H=>
 bV (wU .eql q (.int .i64 (.ofNat 0))) fun a1=>
 jn (cnd a1 (bV (ld1 x6 H) fun a2=>
 bV (ldN 4 a H) fun a3=>
 bV (ldN 4 o H) fun a4=>
 bR (f129 D n [a2,a3,m,a4] H) fun t H=>
 bV (jN t 0) fun a5=>
 bV (jN t 1) fun a6=>
 bR (stN 4 a a5 H) fun _ H=>
 some (.norm [x6,f,h,a,a6],H))
 (some (.norm [x6,f,h,a,q],H))) (BF D n))) (JN D n)
theorem zCq (J n:Nat)(hn:200000000<=n){H0 H:AH}{At N F M0 K V:Nat}{ed:Ed}{u B2 O S T B6 d:Nat}{y:Ptr}{dk b4 dr:AV}{root:Ptr}{es:List (AV×AV)}{q fr:PN}{a5:List (AV×AV)}{g:AV}{gl:List Ptr}{a0 a4:Nat}{nd:Nd.Node}(ti:TI E H0 At M0 dk b4 root es q a0 dr)(hold: ∀kv∈es,∀B,xS kv.2 B->B<H0.next)(b6: ∀kv∈es,∀B,xS kv.2 B-> ¬X B)
  (z:Ch X H0 H At N F a5 fr g gl a0 a4) (cl:Cl H0 H At N K V ed u B2 O S T B6 d) (hs:Qf E q [] y=some nd) (hd:d+1<=8192):
  ∃lv j m f a,f128 (dy (J+1)) n [.agg (jS y), .ptr u 0, .ptr B2 0, .ptr O 0, .ptr S 0, .ptr T 0, .ptr B6 0] H=dG (zOJ (dy (J+1)) n (.ptr O 0) (.ptr S 0) (.ptr T 0) (.ptr B6 0) (.ptr j 0) (.ptr m 0) (.ptr f 0) a)/\
   Ch X H0 a At N F a5 fr g gl a0 a4/\Cl H0 a At N K V ed u B2 O S T B6 (d+1)/\xR X a g (.agg lv) nd/\(∃r,lv= .bool nd.leaf::r/\lv.length=4/\jP lv=true)/\
   a.h.get j=some (.cells (jS y) 42 1 false)/\a.h.get m=some (.cells [.bool false, .nS, .nS, .nS] 119 1 false)/\a.h.get f=some (.cells lv 119 1 false)/\
   H.next<=j/\H.next<=m/\H.next<=f/\j≠m/\j≠f/\m≠f/\Stp (fun B=>B=u) H a:=by
 obtain⟨H1,j,b1,Y,g1,m1,n1⟩:=box z.prs.ok (.cells (jS y) 42 1 false);obtain⟨H2,m,b2,p2,g2,m2,n2⟩:=box Y.ok (.cells [.bool false, .nS, .nS, .nS] 119 1 false);have P2:=Y.trans p2;have b7:=z.step P2;have a6:=cl.prs z.prs.ok P2;obtain⟨H3,e3,a1,o,Z⟩:=a6.deeper b7;have a7:=ti.prs o.prs;have b3:=zO1 (dy (J+1)) n a7;have N1:=Y.next;have N2:=p2.next;have N3:=Z.next
 have d0:u<H.next:=cl.bd.lt z.prs.ok
 have a8:H3.h.get j=some (.cells (jS y) 42 1 false):=by rw[Z.keep _ (by omega) (by omega)];exact zRt p2 Y.ok g1
 have b8:H3.h.get m=some (.cells [.bool false, .nS, .nS, .nS] 119 1 false):=by rw[Z.keep _ (by omega) (by omega)];exact g2
 obtain⟨v,H4,e4,p4,a2,C⟩:=zDc J n hn a7 hs;obtain⟨lv,rfl,b9,c0⟩:=a2.cells;obtain⟨H5,f,b5,p5,g5,m5,n5⟩:=box p4.ok (.cells [.bool false, .nS, .nS, .nS] 119 1 false);obtain⟨a,e6,g6,s6,n6⟩:=jV p5.ok g5 (l':=lv) b9 c0;have c1:stN 4 (.ptr f 0) (.agg lv) H5=some (jQ,a):=e6;have N4:=p4.next;have N5:=p5.next
 have t:Prs H3 a:=(p4.trans p5).fresh s6 (fun B p=>by omega);have a9:=o.step t;have a3:jZ a (.agg lv) nd:=(a2.prs p5).stp s6 (fun B p e=>by
  subst e;have:=a2.lt p;omega)
 have c2:xR X a g (.agg lv) nd:=by
  rcases C with⟨kk,C⟩ | b0
  .exact a3.hand a9 (fun B p=>hold _ C B p) (b6 _ C)
  .refine⟨a3,fun B p=>⟨fun hg=> ?_,fun hx=> ?_⟩⟩
   .have h1:=b0 B p;have h2:=zRy o.gg.row hg;omega
   .have h1:=b0 B p;have h2:=z.xo B hx;have h3:=o.prs.next
    omega
 obtain⟨r,c3,c4,c5⟩:=QO a3;refine⟨lv,j,m,f,a, ?_,a9,a1.prs o.prs.ok t,c2,⟨r,c3,c4,c5⟩,zRt t o.prs.ok a8,zRt t o.prs.ok b8,g6,by omega,by omega,by omega,by omega,by omega,by omega,((P2.mono fun _ _ x=>x.elim).trans Z).trans (t.mono fun _ _ x=>x.elim)⟩;have c6:(d:Int)+((1:Nat):Int)=((d+1:Nat):Int):=by omega
 have c7: ¬((8192+q.length:Nat):Int)< ((d+1:Nat):Int):=by omega
 have c8:aveq (.int .i64 (d+1:Nat)) (.int .i64 (d+1:Nat))=true:=by
  have:keq .i64 .i64=true:=by rw[xX];simp
  simp only[aveq,this,Bool.true_and,xY];simp
 have c9: ¬(((0:Nat):Int)≠((0:Nat):Int)):=by omega
 simp(maxSteps:=999999)(disch:=omega) only[f128,ZQ,zHT,bVs,bRs,show ∀(e:TypeId) (l:List AV),bxV e (.agg l)=some (.cells l e 1 false,fun A=> .ptr A 0)from fun _ _=>rfl,b1,b2,a6.bd.ld,KP,wrap_i64,Int.ofNat_eq_natCast,c6,e3,a1.bd.ld,a1.bt.ld,b3,(fun K=>kW rfl c8: ∀K:Rs,chk (some (AV.int .i64 (d+1:Nat))) (.int .i64 (d+1:Nat)) K=K),zFl,c7,decide_false,zG7,zL,qD,jR a8,zNq,qB,e4,jN,nth,b5,c1,zFi,c9];rfl
theorem Cl.stb {ed:Ed}{d:Nat}(h:Cl i F k v q C ed P Q R V g u d)(t:F.ok)(H:F.h.get G=some (.cells s J 1 false))(hl:s.length=4)(H':Stp (fun B=>B=G) F m):Cl i m k v q C ed P Q R V g u d:=by
 have H0: ∀ {B:Nat} {x:AV},Box F B x->Box m B x:=fun {B x} hb=>hb.mono t H' (fun J=>by
  obtain⟨_,hb⟩:=hb;rw[J,H]at hb;simp only[zB,AObj.cells.injEq]at hb;rw[hb.1]at hl;simp at hl)
 exact⟨H0 h.bd,H0 h.bt,H0 h.be,H0 h.bk,H0 h.bf,H0 h.bc,h.eb,h.fr,h.n1,h.n2,h.n3,h.n4,h.n5⟩
theorem zOI {ed:Ed}{B6:Nat}{root:Ptr}{c6:Nat}(ti:TI E i k G p I root H t c6 Y)(hold: ∀kv∈H,∀B,xS kv.2 B->B<i.next)(d9: ∀kv∈H,∀B,xS kv.2 B-> ¬X B)(hq: ∀s nd,jX s t=some nd->s<=c6)(ho:ed.ok):
  ∀(h M n:Nat),200000000+h<=M->200000000<=n-> ∀ {B2:AH} {d b3:Nat} {T:Ptr} {e0:List (AV×AV)} {f:PN} {F:AV} {gl:List Ptr} {nd:Nd.Node} {B3:Bt.Tr h} {S:List Ptr} {lo hi:Bd},
   Ch X i B2 k v q e0 f F gl c6 b3->Cl i B2 k v J P ed Q R V g u B6 d->Qf E t [] T=some nd->kU (Qf E t []) h nd B3 S->Gen h lo hi B3->wK h B3<=500->(0<h->nd.keys≠[])->zHX lo ed.key->hiB hi ed.key->d+h+1<=8192->b3+6*h<=600000000->gl.length+2*(h+1)<=b3+1000->
   ∃M0 e g' H',f128 (dy (M+1)) n [.agg (jS T), .ptr Q 0, .ptr R 0, .ptr V 0, .ptr g 0, .ptr u 0, .ptr B6 0] B2=some (.tuple [M0, .int .i64 ((e:Nat):Int)],H')/\Stp (fun B=>chg v q F B\/B=Q) B2 H'/\(∃l,M0= .agg l/\l.length=4/\jP l=true)/\
    match ed.run (con h B3)with
    | none=>e=5
    | some c'=>e=0/\zP8 E X i B2 H' k v q J P ed Q R V g u B6 d t f F g' gl c6 b3 h lo hi B3 S T M0 c':=by
 intro h
 induction h with
 | zero=>
  intro M n hM hn B2 d b3 T e0 f F gl nd B3 S lo hi ch cl hs rn wg hz _ e2 e3 hd hb o5;obtain⟨rfl,rfl⟩:=rn;obtain⟨lv,A7,A8,O,H6,e6,y,a9,c8,⟨r,c9,a4,o6⟩,g7,g8,a5,m7,m8,o7,o8,l6,l7,c4⟩:=zCq M n hn ti hold d9 ch cl hs (by omega);have N0:=ch.prs.next;have o9:=ch.ltC;have N6:=c4.next
  have p1:wQ (B3:Kvs)<=10000:=by simp only[wK]at hz;omega
  obtain⟨M0,H7,e7,_,B1,w7⟩:=zIY M n (by omega) y.prs.ok c8.1 wg p1 ho (a9.eb.prs ti.ok y.prs);obtain⟨lu,rfl,p2,h7⟩:=w7.1.cells;have p3:=y.step B1;have h8:=a9.prs y.prs.ok B1;have c2:=zRt B1 y.prs.ok a5;obtain⟨H8,e8,a7,s8,n8⟩:=jV B1.ok c2 (l':=lu) (by omega) h7;have p4:stN 4 (.ptr O 0) (.agg lu) H7=some (jQ,H8):=by rw[a4]at e8;exact e8
  have b5:=h8.stb B1.ok c2 a4 s8;have p5:xR X H7 F (.agg lu) (edL ed B3).1:=vW.hand y (zM _) w7;rw[c9]at c2;have a2:=p3.stb c2 s8 (by omega) (by omega);have h9:=p5.stb c2 s8;have N7:=B1.next;have N8:=s8.next
  have b6:H8.h.get A7=some (.cells (jS T) 42 1 false):=by rw[s8.keep _ (by have:=y.prs.ok.lt g7;omega) (by omega)];exact zRt B1 y.prs.ok g7
  have b0:H8.h.get A8=some (.cells [.bool false, .nS, .nS, .nS] 119 1 false):=by rw[s8.keep _ (by have:=y.prs.ok.lt g8;omega) (by omega)];exact zRt B1 y.prs.ok g8
  have S8:Stp (fun B=>chg v q F B\/B=Q) B2 H8:=⟨s8.ok,by omega,fun B m z=>by
   rw[s8.keep B (by omega) (by omega),B1.keep B (by omega) (fun x=>x),c4.keep B m (fun e=>z (.inr e))]⟩
  have p6: ¬(((0:Nat):Int)≠((0:Nat):Int)):=by omega
  have p9:(leafOf (B3:Kvs)).leaf=true:=rfl;have run: ∀ {x:Option (AV×AH)} {code:Nat},(edL ed B3).2=code->dG (JN (dy (M+1)) n [.ptr B6 0, .ptr A7 0, .ptr A8 0, .ptr O 0, .int .i64 code] H8)=x->f128 (dy (M+1)) n [.agg (jS T), .ptr Q 0, .ptr R 0, .ptr V 0, .ptr g 0, .ptr u 0, .ptr B6 0] B2=x:=by
   intro x code hc Z;rw[hc]at e7;rw[e6];simp(maxSteps:=999999)(disch:=omega) only[zOJ,eZ,jM a5,c9,p9,a9.be.ld];simp(maxSteps:=999999)(disch:=omega) only[eZ,gJ a5 a4,e7,jN,nth,p4];exact Z
  cases hr:ed.run B3 with
  | none=>
   have d0:edL ed B3=(nd0,5):=by simp only[edL,hr]
   obtain⟨H9,e9,At⟩:=zGD (dy (M+1)) n (B6:=B6) (.ptr A7 0) (.ptr O 0) a2.prs.ok b0 (e:=5) (by decide);refine⟨.agg [.bool false, .nS, .nS, .nS],5,F,H9,run (by rw[d0]) (by rw[e9];rfl),⟨At.ok,by have:=At.next;omega,fun B m z=>by rw[At.keep B (by omega) (by omega)];exact S8.keep B m z⟩,⟨_,rfl,rfl,rfl⟩, ?_⟩
   simp only[con,hr]
  | some l'=>
   have d0:edL ed B3=(leafOf l',0):=by simp only[edL,hr]
   rw[d0]at h9;obtain⟨g',H9,e9,e4,e5,q5,At,b9⟩:=zGC (dy (M+1)) n a2 b5 b6 b0 a7 h9 (by omega) (by omega) (by omega) (by omega) (by omega) (by omega);obtain⟨w1,w2⟩:=Ed.leaf wg e2 e3 ho hr;refine⟨.agg lu,0,g',H9,run (by rw[d0]) (by rw[e9];rfl),⟨At.ok,by have:=At.next;omega,fun B m z=> ?_⟩,⟨_,rfl,p2,h7⟩, ?_⟩
   .rw[At.keep B (by omega) (fun Z=>by
     rcases Z with Z | Z
     .exact z (.inl Z)
     .omega)]
    exact S8.keep B m z
   .simp only[con,hr];refine⟨trivial,_,_,_,_,_,_,[],[T],[],[],l',e4,e5,q5,⟨rfl,rfl⟩,⟨w1,by simp only[wK]at hz;omega⟩,rfl,fun hh=>absurd hh (by omega),rfl,by simp,by omega,by omega,by omega,by simp,by simp,by simp,by simp,fun _ _ hp=>hp,fun B m=> ?_⟩;rcases b9 B m with e | e
    .exact .inl e
    .exact .inr (by omega)
 | succ h ih=>
  intro M n hM hn B2 d b3 T e0 f F gl nd B3 S lo hi ch cl hs rn wg hz c5 e2 e3 hd hb o5;obtain⟨r1,r2,r3,r4⟩:=rn;obtain⟨w1,w2,w3⟩:=id wg;have v3:=w3.len;have k8:=r4.len;obtain⟨lv,A7,A8,O,H6,e6,y,a9,c8,⟨r,c9,a4,o6⟩,g7,g8,a5,m7,m8,o7,o8,l6,l7,c4⟩:=zCq M n hn ti hold d9 ch cl hs (by omega);have N0:=ch.prs.next;have o9:=ch.ltC;have N6:=c4.next
  have q6:wS B3.1 B3.2.length<=500:=hz;have q7:small nd:=vI (by
   have:Nd.size nd=wK (h+1) B3:=kU.size (Q:=Qf E t []) (S:=S) ⟨r1,r2,r3,r4⟩;rw[this];simp only[wK];omega)
  have i0:Nd.whereN nd ed.key=xL B3.1 ed.key:=dZ r1 r2 _;have l8:xL B3.1 ed.key<=B3.1.length:=zB4 _ _;have i1:xL B3.1 ed.key<B3.2.length:=by omega
  obtain⟨sA,sB⟩:=zCZ (key:=ed.key) (ks:=B3.1) (ts:=B3.2) wg;have i2:=zA4 (lo:=lo) w2 e2;have i3:=zA5 (hi:=hi) w2 e3;generalize v2:xL B3.1 ed.key=H0 at i0 l8 i1 sA sB i2 i3;have d2:=zQ i1;obtain⟨pk,q8,Sa,Si,Sb,k1,k2,k3,k4,k5,k6⟩:=r4.at d2;have q9:=k2;have wk:=KB.at w3 d2;have r5:0<h->q8.keys≠[]:=fun hh=>by
   cases h with
   | zero=>omega
   | succ h=>
    have:=X3 wk;rw[k3.2.1];intro e;rw[e]at this;simp at this
  obtain⟨H7,e7,B1⟩:=QF (dy (M+1)) n hn y.prs.ok (key:=ed.key) c8.1.node q7;rw[i0]at e7;obtain⟨H8,f3,b8,p8,i4,v8,r6⟩:=box B1.ok (.cells [.bool false, .nS, .nS, .nS] 119 1 false);have b1:=B1.trans p8;have a2:=y.step b1;have b5:=a9.prs y.prs.ok b1;have h8:=a9.prs y.prs.ok B1;have a3:=c8.prs b1;have b6:=zRt b1 y.prs.ok g7;have b0:=zRt b1 y.prs.ok g8;have a7:=zRt b1 y.prs.ok a5;obtain⟨ks,r7,ps,i5,j1,j2,j3⟩:=id a3.1;simp only[AV.agg.injEq]at i5;obtain⟨qk,ik,i6⟩:=gY.at (l:=nd.kids) j3.row (i:=H0) (by omega);have r8:nd.kids[H0]'(by omega)=pk:=by
   rw[zQ (by omega)]at k1;exact qT k1
  rw[r8]at i6;have N7:=B1.next;have N8:=p8.next
  obtain⟨M',rfl⟩: ∃M',M=M'+1:=⟨M - 1,by omega⟩;obtain⟨u1,e1,g1,H9,e9,At,⟨l1,rfl,i7,r9⟩,b4⟩:=ih M' (M'+1) (by omega) (by omega) a2 b5 q9 k3 wk.gen wk.sz r5 i2 i3 (by omega) (by omega) (by omega);have b7: ∀ {A:Nat} {o:AObj},H8.h.get A=some o->A<H8.next:=fun N=>a2.prs.ok.lt N
  have np: ∀ {A:Nat} {l:List AV} {e:Nat},H8.h.get A=some (.cells l e 1 false)->l.length≠1->A≠v-> ¬(chg v q F A\/A=Q):=fun {A l e} N hl c5 hc=>by
   rcases hc with(e | e | e) | e
   .exact c5 e
   .rw[e,a2.gF]at N;cases N
   .rw[a2.gg.get e]at N;simp at N
   .obtain⟨_,hb⟩:=b5.bd;rw[e,hb]at N;simp only[zB,AObj.cells.injEq]at N;rw[<-N.1]at hl;simp at hl
  have s0:lv.length≠1:=by omega
  have s1:H9.h.get A7=some (.cells (jS T) 42 1 false):=by rw[At.keep _ (b7 b6) (np b6 (by simp[jS]) (by omega))];exact b6
  have s2:H9.h.get A8=some (.cells [.bool false, .nS, .nS, .nS] 119 1 false):=by rw[At.keep _ (b7 b0) (np b0 (by simp) (by omega))];exact b0
  have l9:H9.h.get O=some (.cells lv 119 1 false):=by rw[At.keep _ (b7 a7) (np a7 s0 (by omega))];exact a7
  have c3:H9.h.get f3=some (.cells [.bool false, .nS, .nS, .nS] 119 1 false):=by rw[At.keep _ r6 (np i4 (by simp) (by omega))];exact i4
  obtain⟨a0,s3,k9,a1,v9⟩:=jV At.ok c3 (l':=l1) i7 r9;have m0:stN 4 (.ptr f3 0) (.agg l1) H9=some (jQ,a0):=s3;have N9:=At.next;have w0:=a1.next
  have t7:=b7 b6;have t8:=b7 b0;have t10:=b7 a7;have w4:y.prs.ok.lt g7=y.prs.ok.lt g7:=rfl;have u7:=y.prs.ok.lt g7;have u8:=y.prs.ok.lt g8;have w5:=y.prs.ok.lt a5;have g6:a0.h.get A7=some (.cells (jS T) 42 1 false):=by rw[a1.keep _ (by omega) (by omega)];exact s1
  have d6:a0.h.get A8=some (.cells [.bool false, .nS, .nS, .nS] 119 1 false):=by rw[a1.keep _ (by omega) (by omega)];exact s2
  have d4:a0.h.get O=some (.cells lv 119 1 false):=by rw[a1.keep _ (by omega) (by omega)];exact l9
  have i8:Stp (fun B=>chg v q F B\/B=Q) B2 a0:=⟨a1.ok,by omega,fun B m z=>by
   rw[a1.keep B (by omega) (by omega),At.keep B (by omega) z,b1.keep B (by omega) (fun x=>x),c4.keep B m (fun e=>z (.inr e))]⟩
  have a8:=Ed.run_mid ed (A:=(B3.2.take H0).flatMap (con h)) (C:=con h B3.2[H0]) (B:=(B3.2.drop (H0+1)).flatMap (con h)) sA sB;have m1:con (h+1) B3=(B3.2.take H0).flatMap (con h)++con h B3.2[H0]++(B3.2.drop (H0+1)).flatMap (con h):=by
   have:B3.2=B3.2.take H0++[B3.2[H0]]++B3.2.drop (H0+1):=zE8 d2;simp only[con]
   conv=>lhs;rw[this]
   simp only[yV,qJ,List.flatMap_nil,yB]
  rw[<-m1]at a8;have p6: ¬(((0:Nat):Int)≠((0:Nat):Int)):=by omega
  have i9:lv=[.bool nd.leaf,ks,r7,ps]:=i5;have head: ∀ {x:Option (AV×AH)},dG (jn (bV (wU .eql (.int .i64 e1) (.int .i64 (.ofNat 0))) fun s4=>jn (cnd s4 (bV (ld1 (.ptr B6 0) a0) fun s5=>bV (ldN 4 (.ptr O 0) a0) fun s6=>bV (ldN 4 (.ptr f3 0) a0) fun s7=>bR (f129 (dy (M'+1+1)) n [s5,s6, .int .i64 (H0:Nat),s7] a0) fun j0 B2=>
    bV (jN j0 0) fun t0=>bV (jN j0 1) fun t3=>bR (stN 4 (.ptr O 0) t0 B2) fun _ B2=>some (.norm [.ptr B6 0, .ptr A7 0, .ptr A8 0, .ptr O 0,t3],B2)) (some (.norm [.ptr B6 0, .ptr A7 0, .ptr A8 0, .ptr O 0, .int .i64 e1],a0))) (BF (dy (M'+1+1)) n)) (JN (dy (M'+1+1)) n))=x->
    f128 (dy (M'+1+1)) n [.agg (jS T), .ptr Q 0, .ptr R 0, .ptr V 0, .ptr g 0, .ptr u 0, .ptr B6 0] B2=x:=by
   intro x Z;rw[e6,<-Z];have h0:ld1 (.ptr O 0) H6=some (.bool false):=by rw[jM a5,i9,r1];rfl
   have h3:ld1 (.ptr O 3) H8=some ps:=by rw[jM a7,i9];rfl
   simp(maxSteps:=999999)(disch:=omega) only[zOJ,eZ,h0,gJ a5 a4,a9.bk.ld,e7,b8,b5.bf.ld,h3,ik,i6,zLx,e9,jN,nth,m0]
  cases hr:ed.run (con h B3.2[H0])with
  | none=>
   rw[hr]at b4 a8;simp only[Option.map_none]at a8;have b4:e1=5:=b4;subst b4;obtain⟨c0,f4,f5⟩:=zGD (dy (M'+1+1)) n (B6:=B6) (.ptr A7 0) (.ptr O 0) a1.ok d6 (e:=5) (by decide);have h50: ¬((5:Nat):Int)=((0:Nat):Int):=by omega
   refine⟨.agg [.bool false, .nS, .nS, .nS],5,F,c0,head ?_,⟨f5.ok,by have:=f5.next;omega,fun B m z=>by rw[f5.keep B (by omega) (by omega)];exact i8.keep B m z⟩,⟨_,rfl,rfl,rfl⟩, ?_⟩
   .simp(maxSteps:=999999)(disch:=omega) only[eZ,h50,BF,f4]
   .rw[a8]
  | some c1=>
   rw[hr]at b4 a8;simp only[qB]at a8;obtain⟨rfl,v4,f1,j4,g0,d1,t4,S1,G1,R1,t5,t1,e4,e5,t6,j5,t9,m2,u0,g9,w6,w8,v5,w9,j6,h1,m3,j7,l0,f6⟩:=b4;have c7:=e4.stb c3 a1 (by omega) (by omega);have h2:=e5.stb At.ok c3 rfl a1;have m4:=t6.stb c3 a1;have u3:xR X H9 g1 (.agg lv) nd:=⟨a3.1.stp At (fun B m hc=>by
    rcases hc with(e | e | e) | e
    .subst e;exact a3.1.nblk a2.gC (.inl ⟨_,_,_,_,rfl,fun _ _ e=>by cases e⟩) m
    .subst e;exact a3.1.nblk a2.gF (.inr (.inl ⟨_,_,rfl⟩)) m
    .exact(a3.2 B m).1 e
    .obtain⟨_,hb⟩:=b5.bd;subst e;exact a3.1.nblk hb (.inl ⟨_,_,_,_,rfl,fun _ _ e=>by cases e⟩) m),fun B m=>⟨fun N=>by
    rcases f6 B N with e | e
    .exact(a3.2 B m).1 e
    .have:=a3.1.lt m;omega,(a3.2 B m).2⟩⟩
   have m5:=u3.stb c3 a1;have m6:0<h->t4.keys≠[]:=fun hh=>by
    have f7:=u0 hh
    cases h with
    | zero=>omega
    | succ h=>
     have:=X3 wk;simp only[VV]at f7;rw[j5.2.1];intro e;rw[e]at f7;simp at f7;omega
   have v6:j4.length=gl.length+G1.length:=by rw[g9,zV]
   obtain⟨u2,c0,m9,f2,g2,j8,g4,u4,t2,S2,G2,R2,f4,d7,a6,h4,n0,u5,l3,x0,k11,x3,x4,h5,j9,h6,l4,x5⟩:=zFI (M'+1) n hn ti hold d9 hq c7 m5 m4 r1 r2 r3 k8 wg (by rw[<-r2];exact c5 (by omega)) q6 d2 k4 k5 j5 t9 m6 (by omega) (by omega);obtain⟨l2,rfl,u6,k0⟩:=h4.1.cells;have d8: ∀ {A:Nat} {l:List AV} {e:Nat},a0.h.get A=some (.cells l e 1 false)->A≠v-> ¬chg v q g1 A:=fun {A l e} N c5 hc=>by
    rcases hc with e | e | e
    .exact c5 e
    .rw[e,c7.gF]at N;cases N
    .rw[c7.gg.get e]at N;simp at N
   have x6:=a6.1.next
   have n1:c0.h.get A7=some (.cells (jS T) 42 1 false):=by rw[a6.1.keep _ (by omega) (d8 g6 (by omega))];exact g6
   have n2:c0.h.get A8=some (.cells [.bool false, .nS, .nS, .nS] 119 1 false):=by rw[a6.1.keep _ (by omega) (d8 d6 (by omega))];exact d6
   have d5:c0.h.get O=some (.cells lv 119 1 false):=by rw[a6.1.keep _ (by omega) (d8 d4 (by omega))];exact d4
   obtain⟨f8,k7,l5,b2,x7⟩:=jV d7.prs.ok d5 (l':=l2) (by omega) k0;have n3:stN 4 (.ptr O 0) (.agg l2) c0=some (jQ,f8):=by rw[a4]at k7;exact k7
   have n4:=h2.keep c7 a6.1;have n5:=n4.stb d7.prs.ok d5 a4 b2;have d3:=d5;rw[c9]at d3;have n6:=d7.stb d3 b2 (by omega) (by omega);have n7:=h4.stb d3 b2;have x8:=b2.next
   have n9:f8.h.get A7=some (.cells (jS T) 42 1 false):=by rw[b2.keep _ (by omega) (by omega)];exact n1
   have o0:f8.h.get A8=some (.cells [.bool false, .nS, .nS, .nS] 119 1 false):=by rw[b2.keep _ (by omega) (by omega)];exact n2
   have v7:j8.length=j4.length+G2.length:=by rw[h5,zV]
   obtain⟨g3,u9,v0,o1,o2,o3,f9,v1⟩:=zGC (dy (M'+1+1)) n n6 n5 n9 o0 l5 n7 (by omega) (by omega) (by omega) (by omega) (by omega) (by omega);have g5: ∀B,Blk g2 B->Blk F B\/H8.next<=B:=fun B m=>by
    rcases a6.2 B m with e | e
    .exact f6 B e
    .exact .inr (by omega)
   refine⟨.agg l2,0,g3,u9,head ?_,⟨f9.ok,by have:=f9.next;omega,fun B m z=> ?_⟩,⟨_,rfl,u6,k0⟩, ?_⟩
   .simp(maxSteps:=999999)(disch:=omega) only[eZ,h2.bc.ld,gJ d4 a4,gJ k9 i7,f4,jN,nth,n3,BF,v0]
   .rw[f9.keep B (by omega) (fun Z=>by
     rcases Z with(e | e | e) | e
     .exact z (.inl (.inl e))
     .exact z (.inl (.inr (.inl e)))
     .rcases g5 B e with e | e
      .exact z (.inl (.inr (.inr e)))
      .omega
     .omega),b2.keep B (by omega) (by omega),a6.1.keep B (by omega) (fun Z=>by
     rcases Z with e | e | e
     .exact z (.inl (.inl e))
     .exact z (.inl (.inr (.inl e)))
     .rcases f6 B e with e | e
      .exact z (.inl (.inr (.inr e)))
      .omega)]
    exact i8.keep B m z
   .rw[a8];refine⟨rfl,m9,f2,j8++[T],g4,d1,u4,S2,G1++G2++[T],R2++R1,pps g0 (g4 - g0)++t5,t2,o1,o2,o3,n0,⟨u5,by omega⟩,by rw[l3,m2],fun _=>by simp only[VV];exact k11,by rw[h5,g9];simp,by simp;omega,by omega,by omega,by omega, ?_, ?_, ?_, ?_,fun K nd hp=>l4 K nd (l0 K nd hp),fun B m=> ?_⟩
    .rw[List.perm_iff_count]at j6 j9⊢;intro a;have x1:=j6 a;have x2:=j9 a;simp only[List.count_append]at x1 x2⊢;omega
    .rw[k6];rw[List.perm_iff_count]at h1 h6⊢;intro a;have x1:=h1 a;have x2:=h6 a;simp only[List.count_append,List.count_cons,List.count_nil]at x1 x2⊢;omega
    .rw[List.nodup_append];refine⟨WV _ _,m3,fun a ha b hb e=> ?_⟩;obtain⟨j,rfl,q1,q2⟩:=ZL ha;obtain⟨j',e',q3,q4⟩:=j7 b hb;rw[e']at e;have:=JH e;omega
    .intro K hp;rcases qA.1 hp with hp | hp
     .obtain⟨j,rfl,q1,q2⟩:=ZL hp;exact⟨j,rfl,by omega,by omega⟩
     .obtain⟨j,rfl,q1,q2⟩:=j7 K hp;exact⟨j,rfl,by omega,by omega⟩
    .rcases v1 B m with e | e
     .rcases g5 B e with e | e
      .exact .inl e
      .exact .inr (by omega)
     .exact .inr (by omega)
end Go.Eng.Sh
namespace Go.Eng
theorem zEJ {t:T AObj} : ∀(n A:Nat),(∀C,A<=C->t.get C=none)->zFX t A n=true
 | 0,_,_=>rfl
 | n+1,A,h=>by
  simp only[zFX,h A (zM _),kF];exact zEJ n _ fun C a=>h C (by simp only[Nat.succ_eq_add_one]at a;omega)
theorem zDY: ∀ {l e:List (AV×AV)},(∀x∈l,wB x.1 e=none)->l.Pairwise (fun a b=>aveq b.1 a.1=false)->U5 e l=e++l
 | [],e,_,_=>by simp[U5]
 | x::l,e,h,hp=>by
  rw[qV]at hp;have f:ups e x=e++[x]:=by
   obtain⟨k,v⟩:=x;simp only[ups,Sh.setA_none (h (k,v) (zJ ..))]
  have m: ∀ {k:AV} {a b:List (AV×AV)},wB k a=none->wB k b=none->wB k (a++b)=none:=by
   intro k a b
   induction a with
   | nil=>intro _ h;exact h
   | cons c a ih=>
    intro f o;simp only[qF,wB]at f⊢
    cases e:aveq k c.1 with
    | true=>rw[e]at f;cases f
    | false=>rw[e]at f;simp only[qH]at f⊢;exact ih f o
  simp only[U5,f];rw[zDY (l:=l) (fun y j=>m (h y (zC _ j)) (by
   simp only[wB,hp.1 y j,qH])) hp.2]
  simp
end Go.Eng
namespace Go.Eng.Sh
open Go.Bt
def cW:PN->List Ptr->PN
 | q,[]=>q
 | q,p::gl=>cW (if p.at_=1 then zF6 p.sum.toNat q else q) gl
theorem J4: ∀(gl:List Ptr) (q:PN) (p:Ptr),cW q (gl++[p])=if p.at_=1 then zF6 p.sum.toNat (cW q gl)else cW q gl
 | [],_,_=>rfl
 | _::gl,q,p=>by simp only[qF,cW,J4 gl]
theorem zF5 (s:Nat): ∀q:PN,(zF6 s q).length<=q.length
 | []=>zM _
 | (t,n)::q=>by
  simp only[zF6];split
  .simp
  .have:=zF5 s q;simp;omega
theorem zF4 (s:Nat): ∀ {q:PN} {x:Nat×Nd.Node},x∈zF6 s q->x∈q
 | [],_,h=>h
 | (t,n)::q,x,h=>by
  simp only[zF6]at h;split at h
  .exact zC _ h
  .rcases zK.1 h with h | h
   .exact h▸zJ ..
   .exact zC _ (zF4 s h)
theorem zBS {s t:Nat}(h:s≠t): ∀q:PN,jX s (zF6 t q)=jX s q
 | []=>rfl
 | (a,n)::q=>by
  simp only[zF6];split
  .rename_i e;simp only[jX];rw[if_neg (fun f=>h (f.symm.trans e))]
  .simp only[jX,zBS h q]
theorem V1 {s:Nat} : ∀ {q:PN},jX s q=none->zF6 s q=q
 | [],_=>rfl
 | (a,n)::q,h=>by
  simp only[jX]at h;split at h
  .cases h
  .rename_i e;simp only[zF6,if_neg e,V1 h]
theorem V0 {H:AH}{s:Nat} : ∀ {es:List (AV×AV)} {q:PN},uL H es q->jX s q=none->zJ8 (.int .u64 (s:Nat)) es=none
 | [],[],_,_=>rfl
 | (k,v)::es,(t,nd)::q,h,hl=>by
  obtain⟨⟨rfl,_⟩,a⟩:=h;simp only[jX]at hl;split at hl
  .cases hl
  .rename_i e;have f: ¬s=t:=fun h=>e h.symm
   simp only[zJ8,zLH,f,decide_false,qH,V0 a hl]
 | [],_::_,h,_=>h.elim
 | _::_,[],h,_=>h.elim
theorem BN {s:Nat} : ∀ {gl:List Ptr} {q:PN},(∀p∈gl,p.at_=1->s≠p.sum.toNat)->jX s (cW q gl)=jX s q
 | [],_,_=>rfl
 | p::gl,q,h=>by
  rw[cW,BN fun p hp=>h p (zC _ hp)];by_cases e:p.at_=1
  .rw[if_pos e,zBS (h p (zJ ..) e)]
  .rw[if_neg e]
theorem Y7: ∀ {gl:List Ptr} {q:PN} {x:Nat×Nd.Node},x∈cW q gl->x∈q
 | [],_,_,h=>h
 | p::gl,_,_,h=>by
  have a:=Y7 (gl:=gl) h;split at a
  .exact zF4 _ a
  .exact a
theorem Y8: ∀(gl:List Ptr) (q:PN),(cW q gl).length<=q.length
 | [],_=>zM _
 | p::gl,q=>by
  refine qN (Y8 gl _) ?_;split
  .exact zF5 _ q
  .exact zM _
theorem v7 {s:Nat}{nd:Nd.Node} : ∀ {q:PN},jX s q=some nd->(s,nd)∈q
 | [],h=>by cases h
 | (t,n)::q,h=>by
  simp only[jX]at h;split at h
  .rename_i e;subst e;simp only[zB]at h;subst h;exact zJ ..
  .exact zC _ (v7 h)
theorem uL.keys {H:AH} : ∀ {es:List (AV×AV)} {q:PN},uL H es q-> ∀kv∈es,∃s,kv.1= .int .u64 ((s:Nat):Int)/\s∈q.map Prod.fst
 | [],[],_,_,h=>by simp at h
 | (k,v)::es,(t,nd)::q,hq,kv,a=>by
  rcases zK.1 a with rfl | a
  .exact⟨t,hq.1.1,by simp⟩
  .obtain⟨s,f,j⟩:=uL.keys hq.2 kv a;exact⟨s,f,zC _ j⟩
 | [],_::_,h,_,_=>h.elim
 | _::_,[],h,_,_=>h.elim
theorem uL.dist {H:AH} : ∀ {es:List (AV×AV)} {q:PN},uL H es q->(q.map Prod.fst).Nodup->es.Pairwise (fun a b=>aveq b.1 a.1=false)
 | [],[],_,_=>List.Pairwise.nil
 | (k,v)::es,(t,nd)::q,hq,hd=>by
  simp only[yJ,List.nodup_cons]at hd;rw[qV];refine⟨fun kv f=> ?_,uL.dist hq.2 hd.2⟩;obtain⟨s,j,m⟩:=uL.keys hq.2 kv f;rw[j,hq.1.1,zLH,yO];intro e;subst e;exact hd.1 m
 | [],_::_,h,_=>h.elim
 | _::_,[],h,_=>h.elim
theorem uL.append {H:AH}{es':List (AV×AV)}{a:PN}(f:uL H es' a): ∀ {es:List (AV×AV)} {q:PN},uL H es q->uL H (es++es') (q++a)
 | [],[],_=>f
 | _::es,_::q,h=>⟨h.1,uL.append f h.2⟩
 | [],_::_,h=>h.elim
 | _::_,[],h=>h.elim
theorem uL.isAg {H:AH}{es:List (AV×AV)}{q:PN}(h:uL H es q):es.all (fun e=>xO [10] e.1&&Eng.isAg 4 e.2)=true:=by
 rw[yE];intro kv a;obtain⟨s,f,_⟩:=h.keys kv a;obtain⟨nd,j⟩:=h.mem kv a;obtain⟨l,m,o,p⟩:=j.cells;rw[f,m,zQe,Bool.true_and];simp only[Eng.isAg,jY,o,p,yF,qP]
noncomputable def AH.putB (H:AH)(A:Nat)(o:AObj)(k:Nat):AH:=⟨(H.put A o).h,H.next+k⟩
theorem zKD (j:i.ok)(p:k<i.next)(o:AObj)(H:Nat):Stp (fun B=>B=k) i (AH.putB i k o H)/\(AH.putB i k o H).h.get k=some o:=by
 have a: ∀B,(AH.putB i k o H).h.get B=if B=k then some o else i.h.get B:=fun B=>zRk i k o B
 refine⟨⟨fun B f=> ?_, ?_,fun B _ m=> ?_⟩, ?_⟩
 .have f:i.next+H<=B:=f
  rw[a,if_neg (by omega)];exact j B (by omega)
 .show i.next<=i.next+H;omega
 .rw[a,if_neg m]
 .rw[a,if_pos rfl]
theorem zK3 (m:i.ok)(o:i.h.get k=some (.map [10] H))(p:i.h.get v=some (.map [10] B))(j:k≠v)(hp:uL i H t):
  zNf [10] 1 (isAg 4) (.map k) (.map v) i=some (AH.putB i v (.map [10] (U5 B H)) (1+1*H.length)):=by
 have hb:Nat.beq k v=false:=by rw[qY];intro h;exact j (Nat.eq_of_beq_eq_true h)
 simp only[zNf,o,p,show Y4 [10] [10]=true from rfl,hb,hp.isAg,Bool.not_false,qP,zP,kF,zEJ _ _ m,kT,AH.putB,zRi,Nat.add_assoc]
variable {E:Ev}
def Ev.drop (E:Ev)(gl:List Ptr):Ev:=⟨E.nb,E.ws,E.dl++gl.filter fun p=>decide (p.at_≠1),E.x⟩
theorem zEZ (E:Ev)(gl:List Ptr):(E.drop gl).dl.length<=E.dl.length+gl.length:=by
 simp only[Ev.drop,zV];have:=List.length_filter_le (fun p:Ptr=>decide (p.at_≠1)) gl;omega
theorem TI.dks (h:TI E i k v p I e H t q Y)(s:Stp A i F)(f: ∀B,A B->B=k\/B=v\/Blk Y B\/i.next<=B): ∃Ad j m o S,p= .ptr Ad 0/\DkI F Ad E.nb E.ws j m o S:=by
 obtain⟨Ad,j,m,o,S,rfl,hd⟩:=h.dk;have u: ∀ {B:Nat} {ks:List Nat} {x:List (AV×AV)},ks≠[10]->i.h.get B=some (.map ks x)-> ¬A B:=fun {B ks x} z g a=>by
  rcases f B a with H' | H' | H' | H'
  .rw[H',h.gT]at g;cases g
  .rw[H',h.gM]at g;simp only[zB,AObj.map.injEq]at g;exact z g.1.symm
  .exact zRs h.dg g (fun _ _ H'=>by cases H') H'
  .have:=h.ok.lt g;omega
 refine⟨Ad,j,m,o,S,rfl,hd.stp h.ok s (fun a=> ?_) (u (by decide) hd.gO) (u (by decide) hd.gN) fun B C a=> ?_⟩
 .rcases f Ad a with H' | H' | H' | H'
  .have g:=hd.gD;rw[H',h.gT]at g;simp[wN]at g
  .have g:=hd.gD;rw[H',h.gM]at g;cases g
  .exact zRs h.dg hd.gD (fun _ _ H'=>by simp at H') H'
  .have:=h.ok.lt hd.gD;omega
 .have g:=hd.ow.get C;rcases f B a with H' | H' | H' | H'
  .rw[H',h.gT]at g;simp at g
  .rw[H',h.gM]at g;cases g
  .exact zRs h.dg g (fun _ _ H'=>by simp at H') H'
  .have:=h.ok.lt g;omega
theorem zQO {s:Nat}(f:i.ok)(a:i.h.get k=some (.map [10] H))(hp:uL i H t):
  ∃es' H',dlM [10] (.map k) (.int .u64 (s:Nat)) i=some (.tuple [],H')/\H'.h.get k=some (.map [10] es')/\uL H' es' (zF6 s t)/\Stp (fun B=>B=k) i H'/\ ∀kv∈es',kv∈H:=by
 cases hl:jX s t with
 | none=>
  refine⟨H,i, ?_,a,by rw[V1 hl];exact hp,zRo f,fun _ h=>h⟩;simp only[dlM,zQe,a,show Y4 [10] [10]=true from rfl,zP,V0 hp hl]
 | some nd=>
  obtain⟨es',o,p,M⟩:=hp.del s nd hl;have j:Stp (fun B=>B=k) i (i.put k (.map [10] es')):=(zRo f).put (f.lt a) _ (.inr rfl);refine⟨es',i.put k (.map [10] es'), ?_,by rw[zRk,if_pos rfl],p.frame fun kv x y m=>m.stp j fun B u e=> ?_,j,M⟩
  .simp only[dlM,zQe,a,show Y4 [10] [10]=true from rfl,zP,o,kT]
  .subst e;exact m.nblk a (.inr (.inl ⟨_,_,rfl⟩)) u
theorem XO {α:Type}(f:α->Bool)(l:List α)(a:α):(l++[a]).filter f=l.filter f++(if f a then[a]else[]):=by
 rw[jH];cases h:f a<;>simp[h]
theorem zJ3{root:Ptr}(es:TI E i k C p I e H t G Y)(hq: ∀s nd,jX s t=some nd->s<=G)
  (u:Ch (XE E Y) i F k v q B U j h G J) (h8: ∀M∈h,0<=M.sum) (hl:J<=900000000) (y:h.length<n) (k3:t.length<=G) (k4:E.dl.length+h.length<=900000000):
  ∃H' es' d5,f126 D n [.ptr v 0, .agg (jS root)] F=some (.tuple [],H')/\TI (E.drop h) H' k C p I root es' (cW t h++U) J d5/\Stp (fun root0=>root0=k\/root0=C\/Blk Y root0) i H'/\ ∀root0,Blk d5 root0->Blk Y root0\/i.next<=root0:=by
 have h9:=es.prs u.prs;have k1:=u.few;obtain⟨Ad,od,hd⟩:=es.hd;obtain⟨H1,A3,b1,p1,g1,m1,n1⟩:=box u.prs.ok (.cells (jS root) 42 1 false);have a6:=u.step p1;have a8:=h9.prs p1;have k2:k<i.next:=es.ok.lt es.gT
 have k5:C<i.next:=es.ok.lt es.gM
 have g7: ∀root0,Blk Y root0->root0<i.next:=fun root0 a=>es.dg.lt a
 have N0:=u.prs.next;have N1:=p1.next
 have cC:=u.dC;have cF:=u.dF;have lC:=u.ltC;have lF:=u.ltF;have b5:k≠C:=fun c=>by have:=es.gT;rw[c,es.gM]at this;cases this
 have nS: ∀root0,i.next<=root0-> ¬(root0=C\/root0=k\/Blk Y root0):=fun root0 a a0=>by
  rcases a0 with c | c | c
  .omega
  .omega
  .have:=g7 root0 c;omega
 have k6: ¬Blk Y C:=zRs es.dg es.gM (fun _ _ c=>by cases c);have k7: ¬Blk Y k:=zRs es.dg es.gT (fun _ _ c=>by simp at c);have d6: ∀kv∈H,∀root0,xS kv.2 root0->root0<i.next:=fun kv T root0 a=>by
  obtain⟨d7,c4⟩:=es.pq.mem kv T;exact c4.lt a
 have lp:=uF (b:=XU D n) h.length (fun H0 us H'=>us=[.ptr v 0, .ptr A3 0, .ptr k 0,j, .int .i64 (h.length:Nat), .int .i64 (H0:Nat)]/\Stp (fun root0=>root0=C\/root0=k\/Blk Y root0) H1 H'/\ ∃a9 a4,H'.h.get C=some (.map [10] a9)/\uL H' a9 (cW t (h.take H0))/\H'.h.get k=some (.cells (wN p I e C G a4) 140 1 false)/\
   kZ 3 42 H' a4 (E.drop (h.take H0)).dl.length ((E.drop (h.take H0)).dl.flatMap jS)/\(∀root0,Blk a4 root0->Blk Y root0\/H1.next<=root0)/\ ∀kv∈a9,kv∈H) (fun H0 us H' hi ⟨i0,st,a9,a4,hM,hp,gT,dg,db,hes⟩=>by
  subst i0;have i3:h[H0]∈h:=yM hi;obtain⟨M,d8⟩: ∃M,M=h[H0]:=⟨_,rfl⟩;have d9:=h8 _ i3;have og:Own 3 42 H' j h.length (h.flatMap jS):=a6.gg.mono st fun root0 a=>nS root0 (u.gN root0 a)
  obtain⟨pq,i1,i2⟩:=gY.at (l:=h) og.row hi;rw[<-d8]at i2 d9;have b8:h.take (H0+1)=h.take H0++[M]:=by rw[qM hi,d8]
  obtain⟨N,A6,b2,p2,g2,m2,n2⟩:=box st.ok (.cells [.int .i64 (0:Nat), .int .i64 (0:Nat), .int .u64 (0:Nat)] 42 1 false);obtain⟨f,e3,g3,d,n3⟩:=jV p2.ok g2 (l':=jS M) rfl rfl;have e0:stN 3 (.ptr A6 0) (.agg (jS M)) N=some (jQ,f):=e3;have N2:=st.next;have N3:=p2.next
  have O:Prs H' f:=p2.fresh d (fun root0 a=>by omega);have N4:=O.next
  have b9:=zRt O st.ok hM;have a7:=zRt O st.ok gT;have b0:=dg.mono O fun _ _ x=>x
  have e7:=hp.frame fun kv _ nd y=>y.prs O
  have e8:((H0:Nat):Int)< (h.length:Int):=by omega
  have f0:ld1 (.ptr A6 0) f=some (.int .i64 M.at_):=by rw[jM g3];rfl
  have f2:ld1 (.ptr A6 2) f=some (.int .u64 M.sum.toNat):=by
   rw[jM g3,Int.toNat_of_nonneg d9];rfl
  have f3:ldN 3 (.ptr A6 0) f=some (.agg (jS M)):=by rw[jR g3];rfl
  have f5:ld1 (.ptr k 5) f=some (.map C):=by rw[jM a7];rfl
  have f7:ld1 (.ptr k 7) f=some a4:=by rw[jM a7];rfl
  by_cases h1:M.at_=1
  .obtain⟨i4,S,e4,i5,i6,Z,g8⟩:=zQO (s:=M.sum.toNat) O.ok b9 e7;have c5:M.at_=((1:Nat):Int):=h1;have i7:S.h.get k=some (.cells (wN p I e C G a4) 140 1 false):=by
    rw[Z.keep _ (by omega) b5];exact a7
   have c6:E.drop (h.take (H0+1))=E.drop (h.take H0):=by
    rw[b8,Ev.drop,Ev.drop,XO,if_neg (by simpa using h1),yB]
   refine⟨_,S, ?_,rfl,(st.trans (O.mono fun _ _ x=>x.elim)).trans (Z.mono fun _ _ x=> .inl x),i4,a4,i5, ?_,i7, ?_,db,fun kv T=>hes kv (g8 kv T)⟩
   .simp(maxSteps:=999999)(disch:=omega) only[XU,eZ,e8,i1,i2,b2,e0,f0,c5,f5,f2,e4,zCm,yH]
   .rw[b8,J4,if_pos h1];exact i6
   .rw[c6];exact b0.mono Z fun root0 a c=>by subst c;exact zRs b0 b9 (fun _ _ c=>by cases c) a
  .have c5: ¬M.at_=((1:Nat):Int):=h1;obtain⟨S,A7,b4,p4,g4,m4,n4⟩:=box O.ok (.cells (jS M) 42 3 false);have b3:=b0.mono p4 fun _ _ x=>x
   have g9:srcOf 3 (.slice A7 0 1 2) S=some (1,jS M):=by simp only[srcOf,g4];rfl
   have h0:=zEZ E (h.take H0);rw[qC]at h0;obtain⟨c7,H5,e5,b6,K,i8⟩:=b3.app (bytes:=24) (m:=1) (new:=jS M) p4.ok (by decide) g9 rfl rfl (by omega) (by decide);have M4:=p4.next;have M5:=K.next
   have i9: ¬Blk a4 k:=zRs b3 (zRt p4 O.ok a7) (fun _ _ c=>by simp at c);have j0: ¬Blk a4 C:=zRs b3 (zRt p4 O.ok b9) (fun _ _ c=>by cases c);have c8:H5.h.get k=some (.cells (wN p I e C G a4) 140 1 false):=by
    rw[K.keep _ (by omega) i9];exact zRt p4 O.ok a7
   obtain⟨H6,e6,g6,s6,n6⟩:=xM K.ok c8 (o:=7) (x:=c7) b6.isCell (by simp[wN]);have g6:H6.h.get k=some (.cells (wN p I e C G c7) 140 1 false):=g6;have j1:H6.h.get C=some (.map [10] a9):=by
    rw[s6.keep _ (by omega) (fun c=>b5 c.symm),K.keep _ (by omega) j0];exact zRt p4 O.ok b9
   have c6:(E.drop (h.take (H0+1))).dl=(E.drop (h.take H0)).dl++[M]:=by
    simp only[b8,Ev.drop,XO];rw[if_pos (by simpa using h1),zZ]
   have e1:=bldQ 42 M [.int .i64 (0:Nat), .int .i64 (0:Nat), .int .u64 (0:Nat)] rfl;have j2:Stp (fun root0=>root0=C\/root0=k\/Blk Y root0) H1 H6:=by
    refine Stp.thr (Stp.thr (st.trans ((O.trans p4).mono fun _ _ x=>x.elim)) K fun root0 c=> ?_) s6 fun root0 c=> .inr (.inr (.inl c))
    rcases db root0 c with x | x
    .exact .inr (.inr (.inr x))
    .exact .inl x
   refine⟨_,H6, ?_,rfl,j2,a9,c7,j1, ?_,g6, ?_,fun root0 a=> ?_,hes⟩
   .simp(maxSteps:=999999)(disch:=omega) only[XU,eZ,e8,i1,i2,b2,e0,f0,c5,f7,f3,e1,b4,e5,e6,zCm,yH]
   .rw[b8,J4,if_neg h1];refine e7.frame fun kv T nd y=> ?_
    have hk:=hes kv T;have h5:jZ H5 kv.2 nd:=(y.prs p4).stp K fun root0 a c=>by
     rcases db root0 c with x | x
     .exact es.ds kv hk root0 a (.inl x)
     .have:=d6 kv hk root0 a;omega
    exact h5.stp s6 fun root0 a c=>by
     subst c;exact h5.nblk c8 (.inl ⟨_,_,_,_,rfl,fun _ _ c=>by rw[hd]at c;cases c⟩) a
   .rw[c6,zV,yV];have e2:[M].flatMap jS=jS M:=by simp
    rw[e2];exact b6.mono s6 fun root0 a c=>by subst c;exact zRs b6 c8 (fun _ _ c=>by simp at c) a
   .rcases i8 root0 a with c | c
    .exact db root0 c
    .exact .inr (by omega)) n _ H1 ⟨rfl,zRo p1.ok,H,Y,a8.gM,by simpa[cW]using a8.pq,a8.gT,by simpa[Ev.drop]using a8.dg,fun root0 a=> .inl a,fun _ a0=>a0⟩ y
 obtain⟨m,us,N,e2,rfl,st,b7,a5,hM,hp,e9,c9,d0,h6⟩:=lp;rw[j9]at hp c9;have N2:=st.next
 have f9:kJ (m+1) (XU D n) [.ptr v 0, .ptr A3 0, .ptr k 0,j, .int .i64 (h.length:Nat), .int .i64 (h.length:Nat)] N=some (.exit 0 [.ptr v 0, .ptr A3 0, .ptr k 0],N):=jW (by simp only[XU,eZ,y7]);have f1:N.h.get v=some (.cells [.ptr k 0, .int .u64 (J:Nat), .map q,j] 242 1 false):=by rw[st.keep _ (by omega) (nS _ (by omega))];exact a6.gC
 have j3:N.h.get q=some (.map [10] B):=by rw[st.keep _ (by omega) (nS _ (by omega))];exact a6.gF
 have j4:N.h.get A3=some (.cells (jS root) 42 1 false):=by rw[st.keep _ (by omega) (nS _ (by omega))];exact g1
 have k0: ∀l:List AV,∀x:AV,∀b,wN p I e C G x≠ .str l.length b::l:=fun l x b c=>by
  rw[hd]at c;simp[wN]at c
 have f4:uL N B U:=a6.pf.frame fun kv T nd y=>y.stp st fun root0 a c=>by
  rcases c with c | c | c
  .subst c;exact y.nblk a8.gM (.inr (.inl ⟨_,_,rfl⟩)) a
  .subst c;exact y.nblk a8.gT (.inl ⟨_,_,_,_,rfl,fun _ _ c=>by rw[hd]at c;cases c⟩) a
  .exact u.gx kv T root0 a (.inl c)
 have d4:=zK3 st.ok j3 hM (by omega) f4;have g0: ∀x∈B,wB x.1 b7=none:=fun x hx=>by
  obtain⟨s,hs,hm⟩:=a6.pf.keys x hx;rw[hs];refine(hp.find s).2 ?_
  cases hk:jX s (cW t h)with
  | none=>rfl
  | some d7=>
   have m1:=Y7 (v7 hk);obtain⟨k8,h3⟩:=fP (q:=t) (s:=s) (qZ.2 ⟨_,m1,rfl⟩);obtain⟨k9,h4⟩:=fP hm;have:=hq _ _ h3;have:=u.fs _ _ h4;omega
 rw[zDY g0 (a6.pf.dist u.fd)]at d4;obtain⟨d,f6⟩:=zKD st.ok (st.ok.lt hM) (.map [10] (b7++B)) (1+1*B.length);have f8:N.next<=(AH.putB N C (.map [10] (b7++B)) (1+1*B.length)).next:=d.next
 generalize AH.putB N C (.map [10] (b7++B)) (1+1*B.length)=f at d4 d f6 f8;have j5:bO [.ptr v 0, .ptr A3 0, .ptr k 0] N=some f:=by
  have c1:ld1 (.ptr v (0+2)) N=some (.map q):=by rw[jM f1];rfl
  have c2:ld1 (.ptr k (0+5)) N=some (.map C):=by rw[jM e9];rfl
  have d1:Nat.blt q N.next=true:=by rw[qE];omega
  have d2:Nat.blt C N.next=true:=by rw[qE];omega
  have d3:Nat.blt k N.next=true:=by rw[qE];omega
  simp only[bO,c1,c2,d1,d2,d3,qP,zP,d4]
 have j6:f.h.get v=some (.cells [.ptr k 0, .int .u64 (J:Nat), .map q,j] 242 1 false):=by rw[d.keep _ (by omega) (by omega)];exact f1
 have a7:f.h.get k=some (.cells (wN p I e C G a5) 140 1 false):=by rw[d.keep _ (by omega) b5];exact e9
 have j7:f.h.get A3=some (.cells (jS root) 42 1 false):=by rw[d.keep _ (by omega) (by omega)];exact j4
 obtain⟨S,e4,g4,Z,n4⟩:=xM d.ok a7 (o:=6) (x:= .int .u64 (J:Nat)) rfl (by simp[wN]);have g4:S.h.get k=some (.cells (wN p I e C J a5) 140 1 false):=g4;have j8:S.h.get A3=some (.cells (jS root) 42 1 false):=by rw[Z.keep _ (by omega) (by omega)];exact j7
 have e5:=WJ (o:=2) (n:=3) (x:= .agg (jS root)) g4 (by decide) rfl rfl (by simp[wN]);have g5:(S.put k (.cells ((wN p I e C J a5).take 2++jU (.agg (jS root))++(wN p I e C J a5).drop (2+3)) 140 1 false)).h.get k=some (.cells (wN p I root C J a5) 140 1 false):=by rw[zRk,if_pos rfl];rfl
 have K:Stp (fun root0=>root0=k) S (S.put k (.cells ((wN p I e C J a5).take 2++jU (.agg (jS root))++(wN p I e C J a5).drop (2+3)) 140 1 false)):=(zRo Z.ok).put (Z.ok.lt g4) _ (.inr rfl);generalize S.put k (.cells ((wN p I e C J a5).take 2++jU (.agg (jS root))++(wN p I e C J a5).drop (2+3)) 140 1 false)=H5 at e5 g5 K;have N3:=d.next;have N4:=Z.next;have N5:=K.next
 have fr: ∀ {At:AV} {nd:Nd.Node},jZ N At nd->jZ H5 At nd:=fun {At nd} y=>by
  have h3:jZ f At nd:=y.stp d fun root0 a c=>by subst c;exact y.nblk hM (.inr (.inl ⟨_,_,rfl⟩)) a
  have h4:jZ S At nd:=h3.stp Z fun root0 a c=>by subst c;exact h3.nblk a7 (.inl ⟨_,_,_,_,rfl,fun _ _ c=>by rw[hd]at c;cases c⟩) a
  exact h4.stp K fun root0 a c=>by subst c;exact h4.nblk g4 (.inl ⟨_,_,_,_,rfl,fun _ _ c=>by rw[hd]at c;cases c⟩) a
 have b0:=c9.mono d fun root0 a c=>by subst c;exact zRs c9 hM (fun _ _ c=>by cases c) a
 have b3:=b0.mono Z fun root0 a c=>by subst c;exact zRs b0 a7 (fun _ _ c=>by simp at c) a
 have b6:=b3.mono K fun root0 a c=>by subst c;exact zRs b3 g4 (fun _ _ c=>by simp at c) a
 have T5:Stp (fun root0=>root0=k\/root0=C\/Blk Y root0) i H5:=⟨K.ok,by omega,fun root0 a hS=>by
  have a1: ¬root0=k:=fun c=>hS (.inl c)
  have a2: ¬root0=C:=fun c=>hS (.inr (.inl c))
  rw[K.keep root0 (by omega) a1,Z.keep root0 (by omega) a1,d.keep root0 (by omega) a2,st.keep root0 (by omega) (fun x=>by
   rcases x with x | x | x
   .exact a2 x
   .exact a1 x
   .exact hS (.inr (.inr x))),p1.keep root0 (by omega) (fun x=>x),u.prs.keep root0 a (fun x=>x)]⟩
 refine⟨H5,b7++B,a5, ?_,⟨K.ok,g5, ?_, ?_, ?_,es.cn,b6,fun kv T root0 a hb=> ?_, ?_,fun root0 a=>qG (es.xl root0 a) T5.next⟩,T5,fun root0 a=> ?_⟩
 .have h7:Nat.ble N.next f.next=true:=by rw[qW];exact f8
  have c0:ld1 (.ptr v 0) H1=some (.ptr k 0):=by rw[jM a6.gC];rfl
  have c3:ld1 (.ptr v 3) H1=some j:=by rw[jM a6.gC];rfl
  have c1:ld1 (.ptr v 1) f=some (.int .u64 (J:Nat)):=by rw[jM j6];rfl
  have r3:ldN 3 (.ptr A3 0) S=some (.agg (jS root)):=by rw[jR j8];rfl
  simp(maxSteps:=999999)(disch:=omega) only[f126,eZ,b1,c0,c3,a6.gg.row.lnSl,e2,f9,zML,j5,tld,h7,zP,c1,e4,r3,e5]
 .rw[K.keep _ (by omega) (fun c=>b5 c.symm),Z.keep _ (by omega) (fun c=>b5 c.symm)];exact f6
 .exact uL.append (f4.frame fun kv _ nd y=>fr y) (hp.frame fun kv _ nd y=>fr y)
 .exact es.dks T5 fun root0 a=>by
   rcases a with c | c | c
   .exact .inl c
   .exact .inr (.inl c)
   .exact .inr (.inr (.inl c))
 .rcases qA.1 T with T | T
  .have hk:=h6 kv T;rcases hb with hb | hb
   .rcases d0 root0 hb with c | c
    .exact es.ds kv hk root0 a (.inl c)
    .have:=d6 kv hk root0 a;omega
   .exact es.ds kv hk root0 a (.inr hb)
  .rcases hb.imp (d0 root0) id with(c | c) | c
   .exact u.gx kv T root0 a (.inl c)
   .obtain⟨d7,c4⟩:=u.pf.mem kv T;have:=c4.lt a;omega
   .exact u.gx kv T root0 a (.inr c)
 .have h1:=Y8 h t;have h2:=u.fl;simp only[zV];omega
 .rcases d0 root0 a with c | c
  .exact .inl c
  .exact .inr (by omega)
end Go.Eng.Sh
namespace Go.Bt
open Go.Nd (Str)
theorem WF.wr: ∀ {h:Nat} {t:Tr h},WF h none none t->WR h t
 | 0,_,w=>w
 | _+1,_,w=>⟨w.1,w.2.1,w.2.2.2⟩
theorem WX.wr: ∀ {h:Nat} {t:Tr h},WX h none none t->(match h,t with | 0,l=>(l:Kvs)≠[] | _+1,t=>t.1≠[])->wK h t<=500->WR h t
 | 0,_,w,hne,hz=>⟨w.1,hne,hz⟩
 | _+1,_,w,hne,hz=>⟨w.1,hne,hz⟩
end Go.Bt
namespace Go.Eng.Sh
open Go.Bt
variable {E:Ev}{X:Nat->Prop}
def pZ:Ptr:=⟨((0:Nat):Int),((0:Nat):Int),((0:Nat):Int)⟩
def dsk (T:List Ptr):List Ptr:=T.filter fun p=>decide (p.at_≠1)
def zDF (a b:List Ptr):dsk (a++b)=dsk a++dsk b:=jH ..
def zQN (T: ∀p∈h,∃j,p=pp j):dsk h=[]:=List.filter_eq_nil_iff.2 fun p hp=>by
 obtain⟨j,rfl⟩:=T p hp;simp[pp]
theorem zEY (E:Ev){gl Fr R:List Ptr}(T:h.Perm (gl++R))(q:N.Perm (Fr++R))(t: ∀p∈Fr,∃j,p=pp j):(dsk N++(E.drop gl).dl).Perm (dsk h++E.dl):=by
 have o:(dsk h).Perm (dsk (gl++R)):=T.filter _;have f:(dsk N).Perm (dsk (Fr++R)):=q.filter _;rw[zDF]at o f;rw[zQN t,qX]at f;have u:(E.drop gl).dl=E.dl++dsk gl:=rfl;rw[u];rw[List.perm_iff_count]at o f⊢;intro a;have x:=o a;have y:=f a;simp only[List.count_append]at x y⊢;omega
def vD (E:Ev)(q:PN)(root:Ptr)(kv:Kvs)(T:List Ptr):Prop:=(root=pZ/\kv=[]/\T=[])\/ ∃h nd,∃t:Bt.Tr h,∃S:List Ptr,Qf E q [] root=some nd/\kU (Qf E q []) h nd t S/\WR h t/\(root::S).Nodup/\con h t=kv/\T=root::S
theorem xT.here {α:Type}{Q:Ptr->Option Nd.Node}{R:Nd.Node->α->List Ptr->Prop}(hr: ∀nd t S,R nd t S-> ∀p∈S,∃nd,Q p=some nd): ∀ {ps:List Ptr} {ts:List α} {S:List Ptr},xT Q R ps ts S-> ∀p∈S,∃nd,Q p=some nd
 | [],[],_,h=>by subst h;simp
 | p::ps,t::ts,_,⟨nd,S1,S2,a,b,c,e⟩=>fun x f=>by
  subst e;rcases zK.1 f with rfl | f
  .exact⟨nd,a⟩
  .rcases qA.1 f with f | f
   .exact hr _ _ _ b x f
   .exact xT.here hr c x f
 | [],_::_,_,h=>h.elim
 | _::_,[],_,h=>h.elim
theorem kU.here {Q:Ptr->Option Nd.Node} : ∀ {h:Nat} {nd:Nd.Node} {t:Bt.Tr h} {S:List Ptr},kU Q h nd t S-> ∀p∈S,∃nd,Q p=some nd
 | 0,_,_,_,w=>by obtain⟨_,rfl⟩:=w;simp
 | h+1,_,_,_,w=>xT.here (fun _ _ _ hr=>kU.here hr) w.2.2.2
theorem zNG {q f:PN}{gl T Fr R:List Ptr}{o:Nat}(t: ∀s nd,jX s q=some nd->s<=o)(S: ∀s nd,jX s f=some nd->o<s)(y:T.Perm (Fr++R))(Y:(gl++R).Nodup)(J: ∀p∈gl,∃nd,Qf E q [] p=some nd)(u: ∀p∈Fr,∃j,p=pp j/\o<j)(K:Fr.Nodup)(hR: ∀p∈R,∃nd,Qf E q [] p=some nd):
  T.Nodup/\ ∀p∈T,∀nd,Qf E q f p=some nd->Qf E (cW q gl++f) [] p=some nd:=by
 have z: ∀s,pp s∈R->s<=o:=fun s hp=>by
  obtain⟨nd,h⟩:=hR _ hp;obtain⟨s',e,m | ⟨_,m⟩⟩ | ⟨m,_⟩:=uK h
  .simp[jX]at m
  .have:=JH e;subst this;exact t _ _ m
  .exact absurd rfl (m s)
 obtain⟨_,N,C⟩:=List.nodup_append.1 Y;refine⟨y.nodup_iff.2 (List.nodup_append.2 ⟨K,N,fun a Z b hb e=> ?_⟩),fun p hp nd h=> ?_⟩
 .obtain⟨j,rfl,hj⟩:=u a Z;subst e;have:=z j hb;omega
 .obtain⟨s,rfl,m | ⟨h0,m⟩⟩ | ⟨m,h2⟩:=uK h
  .rw[zAZ];simp only[jX];have hs:=S _ _ m;rw[v8]
   cases hk:jX s (cW q gl)with
   | none=>exact m
   | some n2=>
    obtain⟨n3,h3⟩:=fP (qZ.2 ⟨_,Y7 (v7 hk),rfl⟩);have:=t _ _ h3;simp only at this;omega
  .rw[zAZ];simp only[jX];have hs:=t _ _ m;have O:pp s∈R:=by
    rcases qA.1 (y.mem_iff.1 hp)with e | e
    .obtain⟨j,e,hj⟩:=u _ e;have:=JH e;omega
    .exact e
   rw[v8,BN fun p' x e1 e=> ?_,m];obtain⟨a0,hn⟩:=J p' x;obtain⟨s',rfl,_⟩ | ⟨_,hd⟩:=uK hn
   .have:s=s':=by simpa[pp]using e
    subst this;exact C _ x _ O rfl
   .have:=(bU hd).2;omega
  .rw[JD m];exact h2
def zEy (o: ∀s nd,jX s t=some nd->s<=k)(p: ∀s nd,jX s U=some nd->k<s/\s<=v)(hl:k<=v): ∀s nd,jX s (cW t h++U)=some nd->s<=v:=fun s nd f=>by
 rw[v8]at f
 cases m:jX s (cW t h)with
 | none=>rw[m]at f;exact(p _ _ f).2
 | some n2=>
  obtain⟨u,q⟩:=fP (qZ.2 ⟨_,Y7 (v7 m),rfl⟩);have:=o _ _ q;simp only at this;omega
theorem xT.perm_one {α:Type}{R:Nd.Node->α->List Ptr->Prop}{t:α}(Q:xT z R h [t] N): ∃p nd f,h=[p]/\z p=some nd/\R nd t f/\N=p::f:=by
 match h,Q with
 | [p],⟨nd,f,S2,a,b,c,e⟩=>exact⟨p,nd,f,rfl,a,b,by simp only[xT]at c;rw[e,c,yB]⟩
 | _::_::_,⟨_,_,_,_,_,c,_⟩=>exact c.elim
 | [],Q=>exact Q.elim
theorem CutsN.one_inv {nd:List Str}(h:CutsN l f nd)(j:Nd.size l<=500):f=[l]/\nd=[]:=by
 cases h with
 | one _=>exact⟨rfl,rfl⟩
 | more h1=>omega
theorem CutsN.more_inv {a:List Str}(h:CutsN l f a)(j:500<Nd.size l):a≠[]:=by
 cases h with
 | one h1=>omega
 | more h1=>simp
end Go.Eng.Sh
namespace Go.Eng.Sh
open Go.Bt
variable {E:Ev}
def zM0 (E:Ev)(H0 H':AH)(At M:Nat)(d c h:AV)(low m:Nat)(kv:Kvs)(T:List Ptr):Prop:= ∃gl root es q a f j,TI (E.drop gl) H' At M d c root es q a f/\Stp (fun B=>B=At\/B=M\/Blk h B) H0 H'/\(∀B,Blk f B->Blk h B\/H0.next<=B)/\(∀s nd,jX s q=some nd->s<=a)/\q.length<=a/\low<=a/\a<=m/\vD E q root kv j/\(dsk j++(E.drop gl).dl).Perm (dsk T++E.dl)/\gl.length<=100
theorem zM0.mono (c:zM0 E i F k v p I Y q G L h)(hl:C<=q)(O:G<=J):zM0 E i F k v p I Y C J L h:=by
 obtain⟨gl,root,es,At,o,H0,u,x,y,z,M,d,S,H',K,N,t⟩:=c;exact⟨gl,root,es,At,o,H0,u,x,y,z,M,d,by omega,by omega,K,N,t⟩
theorem zN5 (h:Qf E t U e=some l):0<=e.sum:=by
 obtain⟨s,rfl,_⟩ | ⟨_,j⟩:=uK h
 .simp[pp]
 .obtain⟨a,birth,kind,body,rfl,_⟩:=zRn.1 j;simp[fJ]
theorem zJ2(S:TI E i k C p I e H t G Y)(u: ∀s nd,jX s t=some nd->s<=G)
  (m:Ch (XE E Y) i F k v q B U j h G J) (y: ∀At∈h,∃nd,Qf E t [] At=some nd) (hl:J<=900000000) (M:h.length<n) (z:t.length<=G) (H0:E.dl.length+h.length<=900000000) (root0:N.Perm h) (K:h.length<=100):
  ∃H',f126 D n [.ptr v 0, .agg [.int .i64 (0:Nat), .int .i64 (0:Nat), .int .u64 (0:Nat)]] F=some (.tuple [],H')/\zM0 E i H' k C p I Y J J [] N:=by
 obtain⟨H',es',o,d,O,st,Z⟩:=zJ3 D n (root:=pZ) S u m (fun At hp=>(y At hp).elim fun nd c=>zN5 c) hl M z H0;refine⟨H',d,h,_,_,_,J,o,[],O,st,Z,zEy u m.fs m.le, ?_,zM _,zM _, .inl ⟨rfl,rfl,rfl⟩,zEY E (R:=[]) (Fr:=[]) (by simpa using root0) (by simp) (by simp),K⟩;have h1:=Y8 h t;have h2:=m.fl;simp only[zV];omega
theorem Y6{h:Nat}{rp:Ptr}{f:PN}{Fr R T:List Ptr}{t:Bt.Tr h}{S:List Ptr}(ti:TI E i k C p I e H U G Y)(x: ∀s l,jX s U=some l->s<=G)
  (o:Ch (XE E Y) i F k v q B f j N G J) (y: ∀H0∈N,∃l,Qf E U [] H0=some l) (hl:J<=900000000) (hn:N.length<n) (c:U.length<=G) (O:E.dl.length+N.length<=900000000)
  (hs:Qf E U f rp=some l) (rn:kU (Qf E U f) h l t S) (wr:WR h t) (u:(rp::S).Perm (Fr++R)) (hG:(N++R).Nodup) (z: ∀H0∈Fr,∃d,H0=pp d/\G<d) (At:Fr.Nodup) (hR: ∀H0∈R,∃l,Qf E U [] H0=some l) (Z:T.Perm (N++R)) (a0:N.length<=100):
  ∃H',f126 D n [.ptr v 0, .agg (jS rp)] F=some (.tuple [],H')/\zM0 E i H' k C p I Y J J (con h t) T:=by
 obtain⟨H',es',a1,M,a2,st,db⟩:=zJ3 D n (root:=rp) ti x o (fun H0 hp=>(y H0 hp).elim fun l h=>zN5 h) hl hn c O;obtain⟨a3,mono⟩:=zNG x (fun s l h=>(o.fs s l h).1) u hG y z At hR;refine⟨H',M,N,_,_,_,J,a1,_,a2,st,db,zEy x o.fs o.le, ?_,zM _,zM _, .inr ⟨h,l,t,S,mono rp (zJ ..) l hs,rn.mono (fun H0 hp l hh=>mono H0 (zC _ hp) l hh),wr,a3,rfl,rfl⟩,zEY E Z u fun H0 hp=>(z H0 hp).elim fun d h=>⟨d,h.1⟩,a0⟩;have h1:=Y8 N U;have h2:=o.fl;simp only[zV];omega
theorem zLm(hn:200000000<=n){f:PN}{g:AV}{R T:List Ptr}{t:Bt.Tr G}{S:List Ptr}(ti:TI E i k C p I e H U J Y)(hq: ∀s l,jX s U=some l->s<=J)
  (y:Ch (XE E Y) i F k v q B f g h J P) (b0: ∀M∈h,∃l,Qf E U [] M=some l) (hl:P<=700000000) (b2:h.length<n) (b3:U.length<=J) (hu:xR (XE E Y) F g j l)
  (root0:kU (Qf E U f) G l t S) (wx:WX G none none t) (hS:S.Perm (N++R)) (hG:(h++R).Nodup) (b4: ∀M∈N,∃c,M=pp c/\J<c/\c<=P) (c0:N.Nodup) (hR: ∀M∈R,∃l,Qf E U [] M=some l) (b5:E.dl.length+h.length<=900000000) (a5:T.Perm (h++R)) (b6:h.length<=100):
  ∃H',f131 D n [.ptr v 0,j] F=some (.int .i64 (0:Nat),H')/\zM0 E i H' k C p I Y P (P+7) (con G t) T:=by
 obtain⟨ks,d4,ps,rfl,j1,j2,j3⟩:=id hu.1;obtain⟨H1,A3,b1,p1,g1,m1,n1⟩:=box y.prs.ok (.cells [.bool l.leaf,ks,d4,ps] 119 1 false);have Z:=y.step p1;have f5:=hu.prs p1;have b7: ∀M∈N,∃c,M=pp c/\J<c:=fun M hp=>by obtain⟨c,a,b,_⟩:=b4 M hp;exact⟨c,a,b⟩
 have e0:ld1 (.ptr A3 0) H1=some (.bool l.leaf):=by rw[jM g1];rfl
 have e1:ld1 (.ptr A3 1) H1=some ks:=by rw[jM g1];rfl
 have e3:ld1 (.ptr A3 3) H1=some ps:=by rw[jM g1];rfl
 by_cases Ac:l.keys=[]
 ·
  have a6:(l.keys.length:Int)=((0:Nat):Int):=by rw[Ac];rfl
  cases G with
  | zero=>
   obtain⟨d5,rfl⟩:=root0;have f6:R=[]:=by
    have:=hS.length_eq;simp only[yG,zV]at this;exact zW (by omega)
   rw[f6,yB]at a5;have ht:t=([]:Kvs):=List.map_eq_nil_iff.1 (show List.map Prod.fst (t:Kvs)=[]from(show(leafOf t).keys=[]from d5▸Ac));subst ht;obtain⟨H2,e2,O⟩:=zJ2 D n ti hq Z b0 (by omega) b2 b3 b5 a5 b6;refine⟨H2, ?_,O.mono (zM _) (by omega)⟩;have c3:ld1 (.ptr A3 0) H1=some (.bool true):=by rw[e0,d5];rfl
   have bs:vJ [(0,1),(1,1),(2,1)] [.int .i64 (0:Nat), .int .i64 (0:Nat), .int .u64 (0:Nat)] []=some (.agg [.int .i64 (0:Nat), .int .i64 (0:Nat), .int .u64 (0:Nat)]):=rfl;simp(maxSteps:=999999)(disch:=omega) only[f131,eZ,b1,e1,j1.row.lnSl,a6,c3,bs,e2,zET]
  | succ G=>
   obtain⟨r1,r2,r3,r4⟩:=id root0;obtain⟨w1,w2⟩:=id wx;rw[Ac]at r2;have a8:=w1.2.2.len;rw[<-r2]at a8;obtain⟨t1,c4⟩: ∃t1,t.2=[t1]:=by
    match ht:t.2,a8 with
    | [a],_=>exact⟨a,rfl⟩
   have d6:=w1.2.2;rw[<-r2,c4]at d6;rw[c4]at r4;obtain⟨k0,h7,S1,c5,q1,f7,f8⟩:=xT.perm_one r4;subst f8;obtain⟨H2,e2,O⟩:=Y6 D n ti hq Z b0 (by omega) b2 b3 b5 q1 f7 (WF.wr d6) hS hG b7 c0 hR a5 b6;have c3:ld1 (.ptr A3 0) H1=some (.bool false):=by rw[e0,r1]
   have b8:con (G+1) t=con G t1:=by simp only[con,c4,qJ,List.flatMap_nil,yB]
   rw[b8];refine⟨H2, ?_,O.mono (zM _) (by omega)⟩;obtain⟨qk,ik,a7⟩:=gY.at (l:=l.kids) (j3.mono p1 (fun _ _ x=>x)).row (i:=0) (by rw[c5];simp);have c6:l.kids[0]'(by rw[c5];simp)=k0:=by simp[c5]
   rw[c6]at a7;simp(maxSteps:=999999)(disch:=omega) only[f131,eZ,b1,e1,j1.row.lnSl,a6,c3,e3,ik,a7,e2,zET]
 ·
  have a6: ¬(l.keys.length:Int)=((0:Nat):Int):=by
   have:l.keys.length≠0:=fun dr=>Ac (zW dr)
   omega
  have f9:=root0.shaped wx.gen (fun _=>Ac) (kU.kidOk root0);have hz:Nd.size l<=785:=by rw[root0.size];exact wx.sz
  obtain⟨pv,sv,H2,vs,o,z,e2,p2,a9,oP,e9,oS,bP,bS,g0⟩:=zCt D n hn p1.ok f5.1 f9 (by omega);obtain⟨ts,c1,c2⟩:=zAO a9 root0 wx;have h8:o.length<=6:=by
   by_cases hb:Nd.size l<=500
   .rw[(a9.one_inv hb).1];simp
   .have:=(zAN c1 wx (.inr (by rw[<-root0.size];omega))).2.2.1;rw[c2.len];exact this
  have g2:=Z.step p2;obtain⟨kv,H3,d7,c7,a3,o3,f3⟩:=zCS D n hn g2 oP e9 (fun es hl u hB=>by
   rcases g0 es hl u hB with dr | dr
   .exact hu.2 u dr
   .exact⟨fun c8=>by have:=zRy Z.gg.row c8;omega,fun hx=>by have:=Z.xo u hx;have:=Z.prs.next;omega⟩) (by omega) (by omega)
  have N1:=p1.next;have N2:=p2.next;have N3:=a3.1.next
  have e8: ∀c,jX (P+1+c) f=none:=fun c=>by
   cases Ac:jX (P+1+c) f with
   | none=>rfl
   | some n2=>have:=y.fs _ _ Ac;omega
  have f1: ∀s K,jX s (vC P o)=some K->J<s:=fun s K hs=>by have:=VH hs;have:=y.le;omega
  have more: ∀M l,Qf E U f M=some l->Qf E U (f++vC P o) M=some l:=fun M l hp=>zB0 hq f1 hp
  have d8: ∀c K,o[c]? =some K->Qf E U (f++vC P o) (pp (P+1+c))=some K:=fun c K hj=>by rw[zAZ,v8,e8];simp only[YZ hj]
  have c9:gY H3 kv (pps P o.length):=by
   have:=o3.row;rw[gY,YQ];exact this
  have d0:=c9.lnSl;rw[YQ]at d0;have d9: ¬(((0:Nat):Int)≠((0:Nat):Int)):=by omega
  by_cases hb:Nd.size l<=500
  .obtain⟨rfl,rfl⟩:=a9.one_inv hb;have b9:(([l].length:Nat):Int)=((1:Nat):Int):=rfl;have wr:WR G t:=wx.wr (by
    cases G with
    | zero=>obtain⟨rfl,_⟩:=root0;intro dr;exact Ac (by rw[show t=([]:Kvs)from dr];rfl)
    | succ G=>exact(show t.1≠[]from root0.2.1▸Ac)) (by rw[<-root0.size];exact hb)
   have d1: ∀M∈pp (P+1)::N,∃c,M=pp c/\J<c:=fun M hp=>by
    rcases zK.1 hp with rfl | hp
    .exact⟨_,rfl,by have:=y.le;omega⟩
    .exact b7 M hp
   have d2:(pp (P+1)::N).Nodup:=List.nodup_cons.2 ⟨fun hp=>by
    obtain⟨c,dr,_,hj⟩:=b4 _ hp;have:=JH dr;omega,c0⟩
   obtain⟨H4,e4,O⟩:=Y6 D n (rp:=pp (P+1)) (t:=t) (S:=S) ti hq c7 b0 (by simp;omega) b2 b3 b5 (d8 0 l rfl) (root0.mono fun M _ l hp=>more M l hp) wr (List.Perm.cons _ hS) hG d1 d2 hR a5 b6;refine⟨H4, ?_,O.mono (by simp) (by simp)⟩;obtain⟨qk,ik,a7⟩:=gY.at c9 (i:=0) (by simp[pps]);have c6:(pps P [l].length)[0]'(by simp[pps])=pp (P+1):=by simp[pps]
   rw[c6]at a7;simp(maxSteps:=999999)(disch:=omega) only[f131,eZ,b1,e1,j1.row.lnSl,a6,gJ g1 rfl,e2,jN,nth,d9,d7,d0,b9,ik,a7,e4,zIJ]
  .have e6:=a9.more_inv (by omega);obtain⟨w1,w2,w3,_⟩:=zAN c1 wx (.inr (by rw[<-root0.size];omega));have a8:=w1.2.2.len;simp only at a8;have h5:z.length≠0:=fun dr=>e6 (zW dr)
   have h9:=c2.len;have b9: ¬(o.length:Int)=((1:Nat):Int):=by omega
   have g3:zFt (Qf E U (f++vC P o)) G o ts S:=by
    have mono: ∀ {a0:List Nd.Node} {d:List (Bt.Tr G)} {S':List Ptr},zFt (Qf E U f) G a0 d S'->zFt (Qf E U (f++vC P o)) G a0 d S':=by
     intro a0
     induction a0 with
     | nil=>intro d S' hp;cases d with
      | nil=>exact hp
      | cons=>exact hp.elim
     | cons a a0 ih=>intro d S' hp;cases d with
      | nil=>exact hp.elim
      | cons b d=>
       obtain⟨S1,S2,a1,a2,a3⟩:=hp;exact⟨S1,S2,a1.mono fun M _ l hp=>more M l hp,ih a2,a3⟩
    exact mono c2
   obtain⟨S2,r2,g4⟩:=g3.kids P d8;have i0:H3.h.get A3=some (.cells [.bool l.leaf,ks,d4,ps] 119 1 false):=by
    rw[a3.1.keep _ (by omega) (fun hc=>by
     rcases hc with dr | dr | dr
     .have:=y.ltC;omega
     .have:=y.ltF;omega
     .have:=zRy y.gg.row dr;omega)]
    exact zRt p2 p1.ok g1
   have e7:Own 1 9 H3 sv z.length (z.map Go.Eng.S):=oS.mono a3.1 (fun u hB hc=>by
    have:=bS u hB;rcases hc with dr | dr | dr
    .have:=y.ltC;omega
    .have:=y.ltF;omega
    .have:=zRy y.gg.row dr;omega)
   have g5:jZ H3 (.agg [.bool false,sv, .nS,kv]) ⟨false,z,[],pps P o.length⟩:=⟨sv, .nS,kv,rfl, .inl e7, .inl (zRw ..), .inl (by
    simp only[YQ];exact o3)⟩
   have g6:xR (XE E Y) H3 g (.agg [.bool false,sv, .nS,kv]) ⟨false,z,[],pps P o.length⟩:=⟨g5,fun u hB=>by
    have i1:F.next<=u:=by
     rcases wO.1 hB with dr | dr | dr
     .have:=bS u dr;omega
     .exact(zRu.1 dr).elim
     .have:=f3 u dr;omega
    exact⟨fun c8=>by have:=zRy y.gg.row c8;omega,fun hx=>by have:=y.xo u hx;have:=y.prs.next;omega⟩⟩
   obtain⟨H4,e4,g7,a4⟩:=zJF D n c7 g6 (by omega);have f2:jX (P+o.length+1) (f++vC P o)=none:=by
    cases Ac:jX (P+o.length+1) (f++vC P o)with
    | none=>rfl
    | some n2=>have:=c7.fs _ _ Ac;omega
   have d3: ∀M K,Qf E U (f++vC P o) M=some K->Qf E U (f++vC P o++[(P+o.length+1,⟨false,z,[],pps P o.length⟩)]) M=some K:=fun M K hp=>zB0 hq (fun s l hs=>by
    simp only[jX]at hs;split at hs
    .have:=y.le;omega
    .cases hs) hp
   have g8:Qf E U (f++vC P o++[(P+o.length+1,⟨false,z,[],pps P o.length⟩)]) (pp (P+o.length+1))=some ⟨false,z,[],pps P o.length⟩:=by
    rw[zAZ,v8,f2];simp[jX]
   have g9:kU (Qf E U (f++vC P o++[(P+o.length+1,⟨false,z,[],pps P o.length⟩)])) (G+1) ⟨false,z,[],pps P o.length⟩ (z,ts) S2:=⟨rfl,rfl,rfl,r2.mono (fun M _ l hp=>d3 M l hp) (fun l t S1 _ hr=>hr.mono fun M _ l hp=>d3 M l hp)⟩;have h6:=YM (ks:=z) (fun At Ac=>(w1.1 At Ac).1);have h0:WR (G+1) (z,ts):=⟨w1,e6,by simp only[wS];omega⟩;have d1: ∀M∈pp (P+o.length+1)::(pps P o.length++N),∃c,M=pp c/\J<c:=fun M hp=>by
    have:=y.le;rcases zK.1 hp with rfl | hp
    .exact⟨_,rfl,by omega⟩
    .rcases qA.1 hp with hp | hp
     .obtain⟨c,rfl,h1,h2⟩:=ZL hp;exact⟨_,rfl,by omega⟩
     .exact b7 M hp
   have d2:(pp (P+o.length+1)::(pps P o.length++N)).Nodup:=by
    refine List.nodup_cons.2 ⟨fun hp=> ?_,List.nodup_append.2 ⟨WV _ _,c0,fun a ha b hb dr=> ?_⟩⟩
    .rcases qA.1 hp with hp | hp
     .obtain⟨c,dr,h1,h2⟩:=ZL hp;have:=JH dr;omega
     .obtain⟨c,dr,h1,h2⟩:=b4 _ hp;have:=JH dr;omega
    .obtain⟨c,rfl,h1,h2⟩:=ZL ha;obtain⟨j',rfl,h3,h4⟩:=b4 _ hb;have:=JH dr;omega
   have hT:(pp (P+o.length+1)::S2).Perm ((pp (P+o.length+1)::(pps P o.length++N))++R):=by
    rw[qF,zZ];exact List.Perm.cons _ (g4.trans (List.Perm.append_left _ hS))
   obtain⟨H5,e5,O⟩:=Y6 D n (rp:=pp (P+o.length+1)) ti hq g7 b0 (by omega) b2 b3 b5 g8 g9 h0 hT hG d1 d2 hR a5 b6;have b8:con (G+1) (z,ts)=con G t:=w2;rw[b8]at O;refine⟨H5, ?_,O.mono (by omega) (by omega)⟩;simp(maxSteps:=999999)(disch:=omega) only[f131,eZ,b1,e1,j1.row.lnSl,a6,gJ g1 rfl,e2,jN,nth,d9,d7,d0,b9,zOR e7.row.isCell c9.isCell,e4,e5,zIJ]
end Go.Eng.Sh
namespace Go.Bt
open Go.Nd (Str)
theorem WR.gen: ∀ {h:Nat} {t:Tr h},WR h t->Gen h none none t
 | 0,_,w=>w.1
 | _+1,_,w=>w.1
theorem WR.sz: ∀ {h:Nat} {t:Tr h},WR h t->wK h t<=500
 | 0,_,w=>w.2.2
 | _+1,_,w=>w.2.2
theorem zEL {h:Nat} : ∀ {ts:List (Tr h)},(∀t∈ts,2 ^ h<=(con h t).length)->ts.length*2 ^ h<=(ts.flatMap (con h)).length
 | [],_=>by simp
 | t::ts,ih=>by
  have f:=ih t (zJ ..);have j:=zEL (ts:=ts) fun t a=>ih t (zC _ a)
  simp only[zT,qJ,zV,j8,Nat.one_mul];omega
theorem zIe {lo hi:Bd}{t:List Str×List (Tr k)}(f: ∀ {lo hi:Bd} {t:Tr k},WF k lo hi t->2 ^ k<=(con k t).length)(w:Inn (WF k) lo hi t)(a:t.1≠[]):2 ^ (k+1)<=(t.2.flatMap (con k)).length:=by
 have hl:=w.2.2.len;have m:t.1.length≠0:=fun e=>a (zW e)
 have o:=zEL (ts:=t.2) fun x j=>by
  obtain⟨i,hi,rfl⟩:=jL j;exact f (KB.at w.2.2 (zQ hi))
 have p:2*2 ^ k<=t.2.length*2 ^ k:=yN _ (by omega);rw[Nat.pow_succ];omega
theorem WF.many: ∀ {h:Nat} {lo hi:Bd} {t:Tr h},WF h lo hi t->2 ^ h<=(con h t).length
 | 0,_,_,t,w=>by
  have:List.length (t:Kvs)≠0:=fun e=>w.2.1 (zW e)
  show 1<=List.length (t:Kvs);omega
 | _+1,_,_,_,w=>zIe WF.many w.1 w.2.1
theorem WR.many: ∀ {h:Nat} {t:Tr h},WR h t->2 ^ h<=(con h t).length
 | 0,t,w=>by
  have:List.length (t:Kvs)≠0:=fun e=>w.2.1 (zW e)
  show 1<=List.length (t:Kvs);omega
 | _+1,_,w=>zIe WF.many w.1 w.2.1
theorem WR.low {t:Tr k}(w:WR k t)(f:(con k t).length<=1000000000):k<=29:=by
 have:=w.many;rcases Nat.lt_or_ge k 30 with a | a
 .omega
 .have j:2 ^ 30<=2 ^ k:=Nat.pow_le_pow_right (by decide) a;have m:(2:Nat) ^ 30=1073741824:=by decide
  omega
end Go.Bt
namespace Go.Eng.Sh
open Go.Bt
variable {E:Ev}
def cbx:(∀A o,jU (.ptr A o)=[.ptr A o])/\jU .nP=[.nP]/\jU .nilFunc=[.nilFunc]/\(∀k z,jU (.int k z)=[.int k z])/\(∀l,jU (S l)=[S l])/\(∀ed K V,jU (edF ed K V)=[edF ed K V])/\(∀A o,aveq (.ptr A o) (.ptr A o)=true):=
 ⟨fun _ _=>rfl,rfl,rfl,fun _ _=>rfl,fun _=>rfl,fun ed _ _=>by cases ed<;>rfl,fun _ _=>by simp[aveq]⟩
def zOO (s:Prs i F)(j:F.h.get v=some (.cells [.ptr k 0, .int .u64 (C:Nat), .map q, .nS] 242 1 false))(m:F.h.get q=some (.map [10] []))(o:i.next<=v)(p:i.next<=q)(ne:v≠q)(hX: ∀B,A B->B<i.next):
  Ch A i F k v q [] [] .nS [] C C:=
 ⟨s,j,m,trivial,zRw ..,fun B H=>(zRu.1 H).elim,fun _ h=>by simp at h,o,p,ne,fun _ _ h=>by simp[jX]at h,zM _,by simp,by simp,by simp,fun _ h=>by simp at h,hX⟩
theorem zCx (M n:Nat)(hM:300000000<=M)(hn:300000000<=n){V:Nat}{T:List Ptr}{ed:Ed}(f:TI E i k v p I e H U C Y)(hq: ∀s nd,jX s U=some nd->s<=C)(d9:U.length<=C)(hl:C<=500000000)
  (hr:vD E U e L T) (o1:E.dl.length<=800000000) (c5:L.length<=1000000000) (ho:ed.ok) (hb:edB i ed q V):
  ∃(c:Nat) (H':AH),f82 (dy (M+2)) n [.ptr k 0,S ed.key,edF ed q V] i=some (.int .i64 (c:Nat),H')/\
   match ed.run L with
   | none=>c=5/\Prs i H'
   | some kv'=>c=0/\zM0 E i H' k v p I Y C (C+200) kv' T:=by
 obtain⟨H1,K,b1,p1,g1,m1,n1⟩:=box f.ok (.cells [.ptr k 0] 31 1 false);obtain⟨H2,B4,b2,p2,g2,m2,n2⟩:=box p1.ok (.cells [S ed.key] 9 1 false);obtain⟨H3,B3,b3,J,g3,m3,n3⟩:=box p2.ok (.cells [edF ed q V] 162 1 false);obtain⟨H4,F,b4,p4,g4,m4,n4⟩:=box J.ok (.map [10] []);obtain⟨H5,N,b5,O,g5,m5,n5⟩:=box p4.ok (.cells [.ptr k 0, .int .u64 (C:Nat), .map F, .nS] 242 1 false);obtain⟨H6,B6,b6,p6,g6,m6,n6⟩:=box O.ok (.cells [.nP] 240 1 false);obtain⟨m,e7,x7,y⟩:=Box.st (⟨_,g6⟩:Box H6 B6 .nP) p6.ok (x:= .ptr N 0) rfl;have i5:=p1.trans p2;have e0:=i5.trans J;have e1:=(e0.trans p4).trans O;have i6:=e1.trans p6;have a0:Prs i m:=i6.fresh y (fun B j=>by have:=e1.next;omega)
 have N1:=p1.next;have N2:=p2.next;have N3:=J.next;have N4:=p4.next;have N5:=O.next;have N6:=p6.next;have N7:=y.next
 have a7: ∀ {A:Nat} {o:AObj},H5.h.get A=some o->m.h.get A=some o:=fun {A o} hg=>by
  have:=O.ok.lt hg;rw[y.keep _ (by omega) (by omega)];exact zRt p6 O.ok hg
 have i7:=a7 g5;have i8:=a7 (zRt O p4.ok g4);have ch:Ch (XE E Y) i m k N F [] [] .nS [] C C:=zOO a0 i7 i8 (by omega) (by omega) (by omega) (fun B j=>j.elim f.dg.lt (f.xl B));have c6:=f.prs a0;have i9:=f.prs e0;have k2:Box m K (.ptr k 0):=⟨_,a7 (zRt (p4.trans O) J.ok (zRt J p2.ok (zRt p2 p1.ok g1)))⟩;have k3:Box m B3 (edF ed q V):=⟨_,a7 (zRt (p4.trans O) J.ok g3)⟩;have k4:Box m B4 (S ed.key):=⟨_,a7 (zRt (p4.trans O) J.ok (zRt J p2.ok g2))⟩;have l2:ld1 (.ptr K 0) H3=some (.ptr k 0):=by rw[jM (zRt J p2.ok (zRt p2 p1.ok g1))];rfl
 have l6:ld1 (.ptr k 6) H3=some (.int .u64 (C:Nat)):=by rw[jM i9.gT];rfl
 have a8:ld1 (.ptr k 2) m=some (.int .i64 e.at_):=by rw[jM c6.gT];rfl
 have bs:vJ [(0,1),(1,1),(2,1),(3,1)] [.nP, .int .u64 (0:Nat), .nM, .nS] [(0, .ptr k 0),(1, .int .u64 (C:Nat)),(2, .map F)]=some (.agg [.ptr k 0, .int .u64 (C:Nat), .map F, .nS]):=rfl;have e2:vJ [(0,1),(1,1),(2,1),(3,1)] [.bool false, .nS, .nS, .nS] [(0, .bool true)]=some (.agg [.bool true, .nS, .nS, .nS]):=rfl;have e3: ¬(((0:Nat):Int)≠((0:Nat):Int)):=by omega
 have t50:(((5:Nat):Int)≠((0:Nat):Int)):=by omega
 rcases hr with⟨rfl,rfl,rfl⟩ | ⟨h,nd,t,S0,hs,rn,wr,nd0,rfl,rfl⟩
 ·
  have f8:pZ.at_=((0:Nat):Int):=rfl;rw[f8]at a8;have wl:jZ m (.agg [.bool true, .nS, .nS, .nS]) (leafOf []):=⟨.nS, .nS, .nS,rfl, .inl (zRw ..), .inl (zRw ..), .inl (zRw ..)⟩;have e4:Lf none none ([]:Kvs):=⟨trivial,by simp⟩;obtain⟨u,H8,_,e8,p8,w8⟩:=zIY (M+1) n (by omega) a0.ok wl e4 (by decide) ho (hb.prs f.ok a0);obtain⟨lu,rfl,a9,c7⟩:=w8.1.cells;obtain⟨H9,B8,b9,p9,g9,m9,n9⟩:=box p8.ok (.cells [.bool false, .nS, .nS, .nS] 119 1 false);obtain⟨a1,j0,c8,c9,j1⟩:=jV p9.ok g9 (l':=lu) a9 c7;have d6:stN 4 (.ptr B8 0) (.agg lu) H9=some (jQ,a1):=j0;have N8:=p8.next;have N9:=p9.next;have j2:=c9.next
  have b0:Prs m a1:=(p8.trans p9).fresh c9 (fun B j=>by omega);have g0:=ch.step b0
  cases z:ed.run []with
  | none=>
   have d0:edL ed []=(nd0,5):=by simp only[edL,z]
   rw[d0]at e8;refine⟨5,a1, ?_,rfl,a0.trans b0⟩;simp(maxSteps:=999999)(disch:=omega) only[f82,eZ,b1,b2,b3,cbx,l2,l6,mkM,b4,bs,b5,b6,e7,k2.ld,a8,k3.ld,e2,e8,jN,nth,b9,d6,t50,ne_eq,yD]
  | some kv'=>
   have d0:edL ed []=(leafOf kv',0):=by simp only[edL,z]
   rw[d0]at e8 w8;obtain⟨j3,j4⟩:=Ed.leaf (lo:=none) (hi:=none) e4 trivial trivial ho z;have d1:kv'≠[]:=by
    cases ed with
    | put At M0=>simp only[Ed.run,zB]at z;subst z;simp[Nd.putP]
    | del At=>simp[Ed.run,Nd.lookP]at z
   have g7:xR (XE E Y) a1 .nS (.agg lu) (leafOf kv'):=⟨(w8.1.prs p9).stp c9 (fun B j c=>by
    have:=w8.1.lt j;omega),fun B j=>⟨fun hg=>(zRu.1 hg).elim,fun hx=>by have:=w8.2 B j;have:=hx.elim f.dg.lt (f.xl B);omega⟩⟩
   obtain⟨b7,c2,h1,j5⟩:=zJF (dy (M+2)) n g0 g7 (by omega);have hQ:Qf E U ([]++[(C+1,leafOf kv')]) (pp (C+1))=some (leafOf kv'):=by rw[zAZ];simp[jX]
   obtain⟨Z,j6,dn⟩:=Y6 (dy (M+2)) n (rp:=pp (C+1)) (h:=0) (t:=kv') (S:=[]) (Fr:=[pp (C+1)]) (R:=[]) (T:=[]) f hq h1 (by simp) (by omega) (by simp;omega) d9 (by simp;omega) hQ ⟨rfl,rfl⟩ ⟨j3,d1,by simp only[cJ]at j4;omega⟩ (by simp) (by simp) (by
    intro a hp;simp only[qS]at hp;subst hp;exact⟨_,rfl,by omega⟩) (by simp) (by simp) (by simp) (by simp)
   refine⟨0,Z, ?_,rfl,dn.mono (by omega) (by omega)⟩;have k6:ld1 (.ptr B6 0) a1=some (.ptr N 0):=(x7.mono y.ok b0 (fun x=>x)).ld;have j7:ld1 (.ptr B6 0) b7=some (.ptr N 0):=by
    refine((x7.mono y.ok b0 (fun x=>x)).mono b0.ok j5.1 (fun hc=> ?_)).ld;rcases hc with c | c | c
    .omega
    .omega
    .exact(zRu.1 c).elim
   simp(maxSteps:=999999)(disch:=omega) only[f82,eZ,b1,b2,b3,cbx,l2,l6,mkM,b4,bs,b5,b6,e7,k2.ld,a8,k3.ld,e2,e8,jN,nth,b9,d6,e3,k6,gJ c8 a9,c2,kW j7 (cbx.2.2.2.2.2.2 _ _),j6]
 ·
  have e5: ¬e.at_=((0:Nat):Int):=by have:=zLY hs;omega
  have hh:=wr.low c5;obtain⟨H8,d,b8,p8,g8,m8,n8⟩:=box a0.ok (.cells [.int .i64 (0:Nat)] 3 1 false);obtain⟨H9,e9,x9,s9⟩:=Box.st (⟨_,g8⟩:Box H8 d (.int .i64 (0:Nat))) p8.ok (x:= .int .i64 (0:Nat)) rfl;obtain⟨a1,B5,e6,c0,c8,o2,j1⟩:=box s9.ok (.cells [.nilFunc] 121 1 false);obtain⟨b7,c2,f1,a5⟩:=Box.st (⟨_,c8⟩:Box a1 B5 .nilFunc) c0.ok (x:=zG5 d K B3 B4 B5 B6) rfl;obtain⟨Z,B8,f2,c1,j8,o3,j9⟩:=box a5.ok (.cells [.bool false, .nS, .nS, .nS] 119 1 false);have N8:=p8.next;have N9:=s9.next;have j2:=c0.next;have o4:=a5.next;have o5:=c1.next
  have k0:Prs m H9:=p8.fresh s9 (fun B j=>by omega);have d2:Prs m b7:=(k0.trans c0).fresh a5 (fun B j=>by omega);have a2:Prs m Z:=d2.trans c1;have h2:=ch.step a2;have m7:=c6.prs a2;have h3:=c6.prs d2;have k1:Box Z d (.int .i64 (0:Nat)):=((x9.mono s9.ok c0 (fun x=>x)).mono c0.ok a5 (by omega)).mono a5.ok c1 (fun x=>x);have h4:Box Z B5 (zG5 d K B3 B4 B5 B6):=f1.mono a5.ok c1 (fun x=>x);have k6:Box Z B6 (.ptr N 0):=x7.mono y.ok a2 (fun x=>x);have cl:Cl i Z k N q V ed d K B3 B4 B5 B6 0:=⟨k1,k2.mono y.ok a2 (fun x=>x),k3.mono y.ok a2 (fun x=>x),k4.mono y.ok a2 (fun x=>x),h4,k6,hb,by omega,by omega,by omega,by omega,by omega,by omega⟩;have hold: ∀L∈H,∀B,xS L.2 B->B<i.next:=fun L c5 B j=>by
   obtain⟨o6,k5⟩:=f.pq.mem L c5;exact k5.lt j
  have d1:0<h->nd.keys≠[]:=fun h0=>by
   cases h with
   | zero=>omega
   | succ h=>rw[rn.2.1];exact wr.2.1
  obtain⟨u,c,g',c3,k7,a3,⟨lu,rfl,a9,c7⟩,a4⟩:=zOI f hold f.ds hq ho h M (M+1) (by omega) (by omega) h2 cl hs rn wr.gen wr.sz d1 (by cases h<;>trivial) (by cases h<;>trivial) (by omega) (by omega) (by simp;omega);have k8: ¬(chg N F .nS B8\/B8=d):=fun hc=>by
   rcases hc with(c | c | c) | c
   .omega
   .omega
   .exact(zRu.1 c).elim
   .omega
  have c4:c3.h.get B8=some (.cells [.bool false, .nS, .nS, .nS] 119 1 false):=by rw[a3.keep _ j9 k8];exact j8
  have h5:Box c3 B6 (.ptr N 0):=k6.mono c1.ok a3 (fun hc=>by
   rcases hc with(c | c | c) | c
   .omega
   .omega
   .exact(zRu.1 c).elim
   .omega)
  obtain⟨d3,k9,l0,a6,o7⟩:=jV a3.ok c4 (l':=lu) a9 c7;have d7:stN 4 (.ptr B8 0) (.agg lu) c3=some (jQ,d3):=k9;have h6:ld1 (.ptr B6 0) d3=some (.ptr N 0):=(h5.mono a3.ok a6 (by omega)).ld;have f3:ld1 (.ptr K 0) b7=some (.ptr k 0):=(k2.mono y.ok d2 (fun x=>x)).ld;have lr:ldN 3 (.ptr k 2) b7=some (.agg (jS e)):=by rw[jR h3.gT];rfl
  have d8:=f1.ld;have f4:callV [(127,f127 (dy (M+2)) n),(126,f126 (dy (M+2)) n),(131,f131 (dy (M+2)) n)] (dy (M+2)) (zG5 d K B3 B4 B5 B6) [.agg (jS e)] Z=some (.tuple [.agg lu, .int .i64 ((c:Nat):Int)],c3):=k7;have f5:(.func 128 [] [.ptr d 0, .ptr K 0, .ptr B3 0, .ptr B4 0, .ptr B5 0, .ptr B6 0]:AV)=zG5 d K B3 B4 B5 B6:=rfl
  cases z:ed.run (con h t)with
  | none=>
   rw[z]at a4;have a4:c=5:=a4;subst a4;refine⟨5,d3, ?_,rfl,⟨a6.ok,by have:=a3.next;have:=a6.next;omega,fun B j _=> ?_⟩⟩
   .simp(maxSteps:=999999)(disch:=omega) only[f82,eZ,b1,b2,b3,cbx,l2,l6,mkM,b4,bs,b5,b6,e7,k2.ld,a8,e5,b8,e9,e6,f5,c2,d8,f3,lr,f2,f4,jN,nth,d7,t50,ne_eq,yD]
   .have:=a3.next
    rw[a6.keep B (by omega) (by omega),a3.keep B (by omega) (fun hc=>by
     rcases hc with(c | c | c) | c
     .omega
     .omega
     .exact(zRu.1 c).elim
     .omega),a2.keep B (by omega) (fun x=>x),a0.keep B j (fun x=>x)]
  | some kv'=>
   rw[z]at a4;obtain⟨rfl,n0,f',d4,m0,d',o8,S',G,R,Fr,t',h7,n7,h8,h9,i0,f9,o0,f6,hG,o9,p0,p7,l1,d5,l3,l4,more,bg⟩:=a4;have i1:=h7.stb c4 a6 (by omega) (by omega);have i2:=h8.stb c4 a6;rw[qX]at f6;subst f6;have l5:(e::S0).Nodup:=nd0;have l7:(d4++R).Nodup:=d5.nodup_iff.1 l5;have i3: ∀a∈e::S0,∃nd,Qf E U [] a=some nd:=fun a hp=>by
    rcases zK.1 hp with rfl | hp
    .exact⟨nd,hs⟩
    .exact kU.here rn a hp
   have f7: ∀a∈d4++R,∃nd,Qf E U [] a=some nd:=fun a hp=>i3 a (d5.mem_iff.2 hp)
   have i4: ∀a∈d4,∃nd,Qf E U [] a=some nd:=fun a hp=>f7 a (qU _ hp)
   obtain⟨l8,l9,dn⟩:=zLm (dy (M+2)) n (by omega) f hq i1 i4 (by omega) (by omega) d9 i2 h9 i0 l1 l7 l4 l3 (fun a hp=>f7 a (yQ _ hp)) (by omega) d5 (by omega);rw[f9]at dn;refine⟨0,l8, ?_,rfl,dn.mono (by omega) (by omega)⟩;simp(maxSteps:=999999)(disch:=omega) only[f82,eZ,b1,b2,b3,cbx,l2,l6,mkM,b4,bs,b5,b6,e7,k2.ld,a8,e5,b8,e9,e6,f5,c2,d8,f3,lr,f2,f4,jN,nth,d7,e3,h6,gJ l0 a9,l9]
def dT (d c:AV)(E:Ev)(H:AH)(At M L:Nat)(W:Nat->Prop)(kv:Kvs)(T:List Ptr):Prop:= ∃f root es q a,isCell c=true/\TI E H At M d c root es q a f/\(∀s nd,jX s q=some nd->s<=a)/\q.length<=a/\a<=L/\E.dl.length<=L/\vD E q root kv T/\ ∀B,W B↔B=At\/B=M\/Blk f B
def fG (d c:AV)(E:Ev)(H:AH)(At M L:Nat)(W:Nat->Prop)(root:Ptr)(q:PN)(kv:Kvs)(T:List Ptr):Prop:= ∃f es a,isCell c=true/\TI E H At M d c root es q a f/\(∀s nd,jX s q=some nd->s<=a)/\q.length<=a/\a<=L/\E.dl.length<=L/\vD E q root kv T/\ ∀B,W B↔B=At\/B=M\/Blk f B
theorem fG.d {d c:AV}{E:Ev}{H:AH}{At M L:Nat}{W:Nat->Prop}{root:Ptr}{q:PN}{kv:Kvs}{T:List Ptr}(h:fG d c E H At M L W root q kv T):dT d c E H At M L W kv T:=by
 obtain⟨f,es,a,h⟩:=h;exact⟨f,root,es,q,a,h⟩
theorem dT.x (c:dT p I W i k v q A L h): ∃root d,fG p I W i k v q A root d L h:=by
 obtain⟨f,root,es,d,a,c⟩:=c;exact⟨root,d,f,es,a,c⟩
theorem dT.prs {d c:AV}{H H':AH}{At M L:Nat}{W:Nat->Prop}{kv:Kvs}{T:List Ptr}(h:dT d c E H At M L W kv T)(s:Prs H H'):dT d c E H' At M L W kv T:=by
 obtain⟨f,root,es,q,a,j,m,o⟩:=h;exact⟨f,root,es,q,a,j,m.prs s,o⟩
theorem dT.up (H:dT p I E i k v q A L h)(hl:q<=C):dT p I E i k v C A L h:=by
 obtain⟨j,root,es,c,f,m,o,d,t,y,z,u,x⟩:=H;exact⟨j,root,es,c,f,m,o,d,t,by omega,by omega,u,x⟩
theorem dT.okH (c:dT p I E i k v q A L h):i.ok:=by
 obtain⟨j,root,es,d,f,m,a,_⟩:=c;exact a.ok
theorem dT.lt {d c:AV}{H:AH}{At M L:Nat}{W:Nat->Prop}{kv:Kvs}{T:List Ptr}(h:dT d c E H At M L W kv T): ∀B,W B->B<H.next:=by
 obtain⟨o,root,es,q,m,p,a,_,_,_,_,_,f⟩:=h;intro B j;rcases(f B).1 j with rfl | rfl | e
 .exact a.ok.lt a.gT
 .exact a.ok.lt a.gM
 .exact a.dg.lt e
def AdT (W:Nat->Prop)(H:AH)(a:Nat->Prop)(H':AH):Prop:=Stp W H H'/\ ∀B,a B->W B\/H.next<=B
def AdT.prs (s:Prs i F):AdT A i A F:=⟨s.mono fun _ _ x=>x.elim,fun _ h=> .inl h⟩
theorem AdT.trans {j:Nat->Prop}(h:AdT A i M F)(k:AdT M F j m):AdT A i j m:=by
 refine⟨Stp.thr h.1 k.1 fun B a=> ?_,fun B a=> ?_⟩
 .rcases h.2 B a with e | e
  .exact .inr e
  .exact .inl e
 .have:=h.1.next
  rcases k.2 B a with e | e
  .exact h.2 B e
  .exact .inr (by omega)
structure Chd (E E':Ev)(T T':List Ptr):Prop where
 nb:E'.nb=E.nb
 ws:E'.ws=E.ws
 xx:E'.x=E.x
 pm:(dsk T'++E'.dl).Perm (dsk T++E.dl)
theorem Chd.refl (E:Ev)(T:List Ptr):Chd E E T T:=⟨rfl,rfl,rfl,List.Perm.refl _⟩
theorem Chd.trans {E a f:Ev}{T T1 j:List Ptr}(h:Chd E a T T1)(k:Chd a f T1 j):Chd E f T j:=⟨k.nb.trans h.nb,k.ws.trans h.ws,k.xx.trans h.xx,k.pm.trans h.pm⟩
theorem zM0.treeD {L:Nat}{kv:Kvs}(M:zM0 E i F k v p I Y q C kv h)(z:isCell I=true)(a: ∀B,A B↔B=k\/B=v\/Blk Y B)(hL:C<=L)(hd:E.dl.length+100<=L):
  ∃t u f,dT p I t F k v L u kv f/\AdT A i u F/\Chd E t h f:=by
 obtain⟨gl,root,es,H0,y,o,f,H',J,K,N,O,h6,h7,S,At,Z⟩:=M;have a0:=zEZ E gl;refine⟨E.drop gl,fun B=>B=k\/B=v\/Blk o B,f,⟨o,root,es,H0,y,z,H',N,O,by omega,by omega,S,fun B=>Iff.rfl⟩,⟨J.mono fun B _ j=>(a B).2 j,fun B j=> ?_⟩,⟨rfl,rfl,rfl,At⟩⟩;rcases j with e | e | e
 .exact .inl ((a B).2 (.inl e))
 .exact .inl ((a B).2 (.inr (.inl e)))
 .rcases K B e with x | x
  .exact .inl ((a B).2 (.inr (.inr x)))
  .exact .inr x
def JG (k v:Str):Bool:=mayK k&&decide (v.length<=200)
theorem zHz (m n:Nat)(hm:300000000<=m)(hn:300000000<=n){L:Nat}{kv:Kvs}{k v:Str}(t:dT p I E i q C L A kv h)(hL:L<=500000000)(Y:kv.length<=1000000000):
  ∃H' a f At,f38 (dy (m+2)) n [.ptr q 0,S k,S v] i=some (.int .i64 (if JG k v then 0 else 1:Nat),H')/\dT p I a H' q C (L+200) f (if JG k v then putP k v kv else kv) At/\AdT A i f H'/\Chd E a h At:=by
 obtain⟨dr,root,es,c,a4,hc,J,h2,h3,h4,a5,h5,hW⟩:=id t;obtain⟨H1,A4,b1,d,g1,m1,n1⟩:=box J.ok (.cells [S k] 9 1 false);obtain⟨j,K,b2,N,g2,m2,n2⟩:=box d.ok (.cells [S v] 9 1 false);have o:=d.trans N;have y:=J.prs o;have x4:Box j A4 (S k):=⟨_,zRt N d.ok g1⟩;have u:Box j K (S v):=⟨_,g2⟩;have z:=YV (dy (m+2)) n y;by_cases hp:JG k v=true
 .obtain⟨H,Z⟩:mayK k=true/\v.length<=200:=by simpa[JG]using hp
  obtain⟨e,O,e3,x⟩:=zCx m n hm hn (ed:= .put k v) y h2 h3 (by omega) h5 (by omega) Y ⟨H,Z⟩ ⟨x4,u⟩;simp only[Ed.run]at x;obtain⟨rfl,dn⟩:=x;obtain⟨a,f,At,d1,d2,d3⟩:=dn.treeD hc hW (L:=L+200) (by omega) (by omega);simp only[Nd.mayK,zE,zR]at H;refine⟨O,a,f,At, ?_,by rw[if_pos hp];exact d1,(AdT.prs o).trans d2,d3⟩;have a1: ¬(k.length:Int)< ((1:Nat):Int):=by omega
  have a2: ¬((40:Nat):Int)< (k.length:Int):=by omega
  have a3: ¬((200:Nat):Int)< (v.length:Int):=by omega
  have a0:f82 (dy (m+2)) n [.ptr q 0,S k, .func 88 [] [.ptr A4 0, .ptr K 0]] j=some (.int .i64 (0:Nat),O):=e3;simp(maxSteps:=999999)(disch:=omega) only[f38,eZ,cbx,b1,b2,z,x4.ld,u.ld,a1,a2,a3,a0,hp]
 .refine⟨j,E,A,h, ?_,by rw[if_neg hp];exact(t.prs o).up (by omega),AdT.prs o,Chd.refl E h⟩;have hx:(k.length:Int)< ((1:Nat):Int)\/((40:Nat):Int)< (k.length:Int)\/((200:Nat):Int)< (v.length:Int):=by
   simp only[JG,Nd.mayK,zE,zR]at hp;omega
  simp(maxSteps:=999999)(disch:=omega) only[f38,eZ,cbx,b1,b2,z,x4.ld,u.ld,hp];rw[if_pos (by simpa[or_assoc]using hx)];rfl
def aY (k:Str)(kv:Kvs):Nat:=if mayK k then(if(lookP k kv).isSome then 0 else 5)else 1
theorem zJ7 (m n:Nat)(hm:300000000<=m)(Z:300000000<=n){L:Nat}{kv:Kvs}{k:Str}(t:dT p I E i v q L A kv h)(hL:L<=500000000)(N:kv.length<=1000000000):
  ∃H' o d u,f29 (dy (m+2)) n [.ptr v 0,S k] i=some (.int .i64 (aY k kv:Nat),H')/\dT p I o H' v q (L+200) d (if aY k kv=0 then delP k kv else kv) u/\AdT A i d H'/\Chd E o h u:=by
 obtain⟨dr,root,es,c,a0,hc,J,h2,h3,h4,a3,h5,hW⟩:=id t;obtain⟨y,A4,b1,f,g1,m1,n1⟩:=box J.ok (.cells [S k] 9 1 false);have z:=J.prs f;have x4:Box y A4 (S k):=⟨_,g1⟩;have C:=YV (dy (m+2)) n z;by_cases hp:mayK k=true
 .obtain⟨e,x,e3,j⟩:=zCx m n hm Z (V:=0) (ed:= .del k) z h2 h3 (by omega) h5 (by omega) N hp x4;have O:=hp;simp only[Nd.mayK,zE,zR]at O;have a1: ¬(k.length:Int)< ((1:Nat):Int):=by omega
  have a2: ¬((40:Nat):Int)< (k.length:Int):=by omega
  have Y:f82 (dy (m+2)) n [.ptr v 0,S k, .func 83 [] [.ptr A4 0]] y=some (.int .i64 e,x):=e3;have run:f29 (dy (m+2)) n [.ptr v 0,S k] i=some (.int .i64 e,x):=by
   simp(maxSteps:=999999)(disch:=omega) only[f29,eZ,cbx,b1,C,x4.ld,a1,a2,Y,hp]
  cases hr:(Ed.del k).run kv with
  | none=>
   rw[hr]at j;obtain⟨rfl,K⟩:=j;have hl:(lookP k kv).isSome=false:=by
    simp only[Ed.run]at hr;split at hr
    .cases hr
    .rename_i H;simpa using H
   have a:aY k kv=5:=by simp only[aY,hp,if_true,hl,zL,qD]
   refine⟨x,E,A,h,by rw[a];exact run,by rw[a];exact(t.prs (f.trans K)).up (by omega),AdT.prs (f.trans K),Chd.refl E h⟩
  | some kv'=>
   rw[hr]at j;obtain⟨rfl,dn⟩:=j;obtain⟨o,d,u,d1,d2,d3⟩:=dn.treeD hc hW (L:=L+200) (by omega) (by omega);have hl:(lookP k kv).isSome=true/\delP k kv=kv':=by
    simp only[Ed.run]at hr;split at hr
    .rename_i H;exact⟨H,by simpa using hr⟩
    .cases hr
   have a:aY k kv=0:=by simp only[aY,hp,if_true,hl.1]
   refine⟨x,o,d,u,by rw[a];exact run,by rw[a,if_pos rfl,hl.2];exact d1,(AdT.prs f).trans d2,d3⟩
 .have a:aY k kv=1:=by simp only[aY,hp,zL,qD]
  refine⟨y,E,A,h, ?_,by rw[a];exact(t.prs f).up (by omega),AdT.prs f,Chd.refl E h⟩;rw[a];have hx:(k.length:Int)< ((1:Nat):Int)\/((40:Nat):Int)< (k.length:Int):=by
   simp only[Nd.mayK,zE,zR]at hp;omega
  simp(maxSteps:=999999)(disch:=omega) only[f29,eZ,cbx,b1,C,x4.ld];rw[if_pos (by simpa using hx)];rfl
end Go.Eng.Sh
namespace Go.Eng
def Stk (k e:Nat)(H:AH)(v:AV)(n:Nat)(l:List AV):Prop:=
 l.length=n*k/\((v= .nS/\n=0)\/ ∃A cc cells g r,v= .slice A 0 n cc/\A<H.next/\H.h.get A=some (.cells cells e k g)/\cells.length=r*k/\n<=r/\cells.take (n*k)=l/\(cc=2*r\/(cc=1/\g=true)))
theorem Stk.row (h:Stk k v i p q s):Rw k i p q s:=by
 obtain⟨a,⟨rfl,rfl⟩ | ⟨A,cc,cells,g,r,rfl,f,j,hl,m,o,_⟩⟩:=h
 .exact⟨a, .inl ⟨rfl,rfl⟩⟩
 .have:=yN k m;exact⟨a, .inr (.inr ⟨A,0,cc,cells,v,k,g,rfl,j,f,by omega,by rw[yL];exact o⟩)⟩
theorem Stk.mono (h:Stk k v i p q s)(S:Stp A i F)(j: ∀e,Blk p e-> ¬A e):Stk k v F p q s:=by
 obtain⟨a,m | ⟨e,cc,cells,g,r,rfl,f,o,n⟩⟩:=h
 .exact⟨a, .inl m⟩
 .exact⟨a, .inr ⟨e,cc,cells,g,r,rfl,qG f S.next,by rw[S.keep e f (j e (zRl.2 rfl))];exact o,n⟩⟩
theorem Stk.lt (h:Stk k v i p q s)(a:Blk p C):C<i.next:=by
 obtain⟨j,⟨rfl,rfl⟩ | ⟨A,cc,cells,g,r,rfl,f,m,o⟩⟩:=h
 .exact(zRu.1 a).elim
 .rw[zRl.1 a];exact f
theorem Stk.isCell {k e n:Nat}{H:AH}{v:AV}{l:List AV}(h:Stk k e H v n l):isCell v=true:=h.row.isCell
theorem Stk.room (cells:0<k)(hl:s.length=q*k)(f:v=2*q\/(v=1/\a=true)):kQ s a k 0 v k=q:=by
 rcases f with rfl | ⟨rfl,rfl⟩
 .simp only[kQ,show((2*q) % 2).beq 0=true by rw[jC];rfl,zP,yP q (show 0<2 by omega)]
 .simp only[kQ,show((1 % 2).beq 0)=false from rfl,qH,yF,show Nat.beq 0 (1 / 2*k)=true from by simp,qP,zP,jY,hl,jD];exact Nat.mul_div_cancel _ cells
theorem Stk.cut (h:Stk k v i p q s)(m:0<k)(hi:C<=q)(κ:IntKind):
  ∃r,vN k p none (some (.int κ (C:Nat))) none i=some r/\Stk k v i r C (s.take (C*k))/\ ∀B,Blk r B->Blk p B:=by
 have f:=kL κ (z:=(C:Int)) (by omega);simp only[yC]at f;have hb:Nat.blt 0 k=true:=by rw[qE];exact m
 have u:C*k<=q*k:=yN _ hi;obtain⟨x,⟨rfl,rfl⟩ | ⟨A,cc,cells,g,r,rfl,e,j,hl,J,y,t⟩⟩:=h
 .obtain rfl:C=0:=by omega
  exact⟨.nS,by simp only[vN,kY,f];simp,⟨by simp, .inl ⟨rfl,rfl⟩⟩,fun B a=>a⟩
 .have b1:Nat.ble C r=true:=by rw[qW];omega
  have b2:Nat.ble 0 C=true:=by rw[qW];omega
  have hr:=Stk.room m hl t;have o:(s.take (C*k)).length=C*k:=by rw[qC,x];omega
  have H:cells.take (C*k)=s.take (C*k):=by rw[<-y,List.take_take,Nat.min_eq_left u]
  rcases t with rfl | ⟨rfl,rfl⟩
  .refine⟨.slice A 0 C (2*r), ?_,⟨o, .inr ⟨A,2*r,cells,g,r,rfl,e,j,hl,by omega,H, .inl rfl⟩⟩,fun B a=>by rw[zRl.1 a];exact zRl.2 rfl⟩;have n:(2*r) / 2=r:=yP r (show 0<2 by omega);simp only[vN,kY,f,j,hb,zP,JC,hr,Option.getD_none,y9,b1,b2,qP,show((2*r) % 2).beq 0=true by rw[jC];rfl,kF,Nat.zero_mul,Nat.add_zero,jD,n]
   cases Nat.beq r 0<;>rfl
  .refine⟨.slice A 0 C 1, ?_,⟨o, .inr ⟨A,1,cells,true,r,rfl,e,j,hl,by omega,H, .inr ⟨rfl,rfl⟩⟩⟩,fun B a=>by rw[zRl.1 a];exact zRl.2 rfl⟩;simp only[vN,kY,f,j,hb,zP,JC,hr,Option.getD_none,y9,b1,b2,qP,show((1 % 2).beq 0)=false from rfl,qH,kF,show Nat.beq 0 0=true from rfl]
theorem Stk.app {bytes m:Nat}{new:List AV}(o:i.ok)(t:0<k)(h:Stk k v i p q s)(T:srcOf k I i=some (m,new))(hm:new.length=m*k)(Y:jP new=true)(a1:m=1)(y:q+m<=1000000000)(hb:bytes<=1000):
  ∃a H',apP v k bytes p I i=some (a,H')/\Stk k v H' a (q+m) (s++new)/\Stp (Blk p) i H'/\ ∀B,Blk a B->Blk p B\/i.next<=B:=by
 suffices hx: ∃a H',app1 v k bytes m new p i=some (a,H')/\Stk k v H' a (q+m) (s++new)/\Stp (Blk p) i H'/\ ∀B,Blk a B->Blk p B\/i.next<=B by
  obtain⟨a,H',Z,h2⟩:=hx;exact⟨a,H',by simp only[apP,T,Y,zP,Z],h2⟩
 have own: ∀ {H':AH},Own k v H' (.slice i.next 0 (q+m) 1) (q+m) (s++new)->Stk k v H' (.slice i.next 0 (q+m) 1) (q+m) (s++new):=fun {H'} ho=>by
  obtain⟨q0,⟨q1,_⟩ | ⟨A,q1,q2,q3⟩⟩:=ho
  .cases q1
  .exact⟨q0, .inr ⟨A,1,_,true,q+m,q1,q2,q3,q0,zM _,zY (by omega), .inr ⟨rfl,rfl⟩⟩⟩
 have h':=h;obtain⟨f,⟨rfl,rfl⟩ | ⟨A,cc,cells,g,r,rfl,n,z,hl,O,C,x⟩⟩:=h
 .obtain rfl:s=[]:=zW (by simpa using f);obtain⟨H',e1,e2,e3,e4⟩:=KR (k:=k) (e:=v) (bytes:=bytes) (new:=new) (n:=0) (m:=m) o t (zRw k v i) hm (by omega) y hb;exact⟨_,H',e1,own e2,e3,fun B j=> .inr (by rw[zRl.1 j];exact zM _)⟩
 .have hr:=Stk.room t hl x;have a0:=yN k O;by_cases e:q+m<=r
  .have b1:Nat.ble (q+m) r=true:=by rw[qW];exact e
   have hz:Nat.blt 0 k=true:=by rw[qE];exact t
   have K:=yN k e;rw[j8]at K;have N:setAt cells (0+q*k) new=some (cells.take (q*k)++new++cells.drop (q*k+m*k)):=by rw[xI (by omega),hm];simp only[yZ]
   have u:(cells.take (q*k)).length=q*k:=by rw[C,f]
   refine⟨.slice A 0 (q+m) cc,i.put A (.cells (cells.take (q*k)++new++cells.drop (q*k+m*k)) v k g), ?_,⟨by simp[f,hm,j8], .inr ⟨A,cc,_,g,r,rfl,n,by rw[zRk,if_pos rfl], ?_,e, ?_,x⟩⟩,(zRo o).put n _ (.inr (zRl.2 rfl)),fun B j=> .inl (by rw[zRl.1 j];exact zRl.2 rfl)⟩
   .simp only[app1,z,zGg,hr,b1,zP,hz,N,zCO,kT,kF]
   .simp only[zV,u,hm,qL];omega
   .rw[C,List.take_append_of_le_length (by simp[f,hm,j8]),zY (by simp[f,hm,j8])]
  .have b1:Nat.ble (q+m) r=false:=by rw[qY];intro v;rw[qW]at v;omega
   have J:bC cells 0 (q*k)=some s:=by rw[wC _ _ _ (.inr (by omega)),yL,C]
   rcases x with rfl | ⟨rfl,rfl⟩
   .refine⟨.slice i.next 0 (q+m) 1,i.push (.cells (s++new) v k true), ?_,own ⟨by simp[f,hm,j8], .inr ⟨i.next,rfl,Nat.lt_succ_self _,zRg _ _⟩⟩,(zRo o).push _,fun B j=> .inr (by rw[zRl.1 j];exact zM _)⟩
    simp only[app1,z,zGg,hr,b1,qH,show((2*r) % 2).beq 0=true by rw[jC];rfl,zP,J,vU,aK y hb,Z4,ZN o,kF]
   .obtain rfl:q=r:=by omega
    have u:Nat.beq (0+q*k) (Z9 cells 0)=true:=by rw[jY,hl,yZ,yF]
    have S:(i.put A .dead).ok:=o.put n _;refine⟨.slice i.next 0 (q+m) 1,(i.put A .dead).push (.cells (s++new) v k true), ?_,own ⟨by simp[f,hm,j8], .inr ⟨i.next,rfl,Nat.lt_succ_self _,zRg (i.put A .dead) _⟩⟩,((zRo o).put n _ (.inr (zRl.2 rfl))).push _,fun B j=> .inr (by rw[zRl.1 j];exact zM _)⟩
    simp only[app1,z,zGg,hr,b1,qH,show((1 % 2).beq 0)=false from rfl,u,yF,show Nat.beq 0 (1 / 2*k)=true from by simp,qP,zP,kT,J,vU,
     aK y hb,Z4,ZN S,kF,zRi]
end Go.Eng
namespace Go.Eng.Sh
end Go.Eng.Sh
namespace Go.Eng
def X1 (a:i.ok)(o:AObj)(K:Nat->AH->Rs):VN i o K=K i.next (i.push o):=zDl a o K
end Go.Eng
namespace Go.Eng.Sh
open Go.Nd (Str Srt)
open Go.Bt
variable {E:Ev}
def Item (E:Ev)(q:PN)(p:Ptr)(c:Kvs)(w:Nat):Prop:= ∃nd h,∃t:Bt.Tr h,∃S lo hi,Qf E q [] p=some nd/\kU (Qf E q []) h nd t S/\Gen h lo hi t/\(0<h->nd.keys≠[])/\wK h t<=500/\c=con h t/\w=1+S.length
def U1 (E:Ev)(q:PN):List Ptr->Kvs->Nat->Prop
 | [],c,w=>c=[]/\w=0
 | p::ps,c,w=> ∃c1 c2 a f,Item E q p c1 a/\U1 E q ps c2 f/\c=c1++c2/\w=a+f
theorem U1.app {q:PN}{h:List Ptr}{c':Kvs}{f:Nat}(j:U1 E q h c' f): ∀ {ps:List Ptr} {c:Kvs} {w:Nat},U1 E q ps c w->U1 E q (ps++h) (c++c') (w+f)
 | [],_,_,⟨e1,e2⟩=>by subst e1;subst e2;simpa using j
 | p::ps,_,_,⟨c1,c2,w1,w2,a,b,e1,e2⟩=>⟨c1,c2++c',w1,w2+f,a,U1.app j b,by rw[e1];simp,by omega⟩
theorem U1.len {q:PN} : ∀ {ps:List Ptr} {c:Kvs} {w:Nat},U1 E q ps c w->ps.length<=w
 | [],_,_,_=>by simp
 | p::ps,_,_,⟨c1,c2,w1,w2,⟨_,_,_,_,_,_,_,_,_,_,_,_,e⟩,b,e1,e2⟩=>by
  have:=U1.len b;simp only[zT];omega
theorem zHE: ∀(q:PN) (T:List Ptr),T.Nodup->(∀p∈T,∃s nd,p=pp s/\jX s q=some nd)->T.length<=q.length
 | [],T,_,h=>by
  cases T with
  | nil=>simp
  | cons p T=>obtain⟨s,nd,_,e⟩:=h p (zJ ..);cases e
 | (a,n)::q,T,hn,h=>by
  by_cases hm:pp a∈T
  .have m:=zHE q (T.erase (pp a)) (hn.erase _) fun p hp=>by
    obtain⟨o,t⟩:=(List.Nodup.mem_erase_iff hn).1 hp;obtain⟨s,nd,e,f⟩:=h p t;refine⟨s,nd,e, ?_⟩;simp only[jX]at f;rw[if_neg (fun j=>o (by rw[e,j]))]at f;exact f
   rw[List.length_erase_of_mem hm]at m;simp only[zT];omega
  .have m:=zHE q T hn fun p hp=>by
    obtain⟨s,nd,e,f⟩:=h p hp;refine⟨s,nd,e, ?_⟩;simp only[jX]at f;rw[if_neg (fun j=>hm (by rw[j,<-e];exact hp))]at f;exact f
   simp only[zT];omega
theorem zFD {b k':UInt8}{x a:Str}(hb:k<=2147483647)(h:v<=2147483647)(e:Bk.sealB b k x=Bk.sealB k' v a):k=v:=by
 obtain⟨_,q2,_,_⟩:=Bk.seal_parts (kind:=b) (birth:=k) (body:=x);obtain⟨_,f,_,_⟩:=Bk.seal_parts (kind:=k') (birth:=v) (body:=a);rw[e,f]at q2;have hl:=congrArg Nd.bee q2;rw[Nd.bee_be,Nd.bee_be,Nat.mod_eq_of_lt (by omega),Nat.mod_eq_of_lt (by omega)]at hl;exact hl.symm
theorem K_at {f:Ptr}{o:Nd.Node}(h:E.K e=some l)(t:E.K f=some o)(p:e.at_=f.at_):e=f:=by
 obtain⟨a,b,k,s,rfl,_,_,_,hb,J,u,_,_⟩:=zRn.1 h;obtain⟨x,b',k',s',rfl,_,_,_,q,C,j,_,_⟩:=zRn.1 t;have y:a=x:=by simp only[fJ]at p;omega
 subst y;rw[u]at j;have m:=qT j;have z:=zFD hb q m;subst z;rw[m]
theorem zDg: ∀(n:Nat) (T:List Ptr),T.Nodup->(∀p∈T,(∃nd,E.K p=some nd)/\p.at_< (n:Nat))->T.length<=n
 | 0,T,_,h=>by
  cases T with
  | nil=>simp
  | cons p T=>
   obtain⟨⟨nd,a⟩,m⟩:=h p (zJ ..);have:=(bU a).2;omega
 | n+1,T,hn,h=>by
  by_cases hm: ∃p∈T,p.at_=(n:Int)
  .obtain⟨p,hp,u⟩:=hm;have a:=zDg n (T.erase p) (hn.erase _) fun x f=>by
    obtain⟨m,o⟩:=(List.Nodup.mem_erase_iff hn).1 f;obtain⟨⟨nd,j⟩,q⟩:=h x o;obtain⟨⟨y,t⟩,_⟩:=h p hp;refine⟨⟨nd,j⟩, ?_⟩;by_cases e:x.at_=p.at_
    .exact absurd (K_at j t e) m
    .omega
   rw[List.length_erase_of_mem hp]at a;omega
  .have a:=zDg n T hn fun x f=>by
    obtain⟨j,q⟩:=h x f;refine⟨j, ?_⟩;have: ¬x.at_=(n:Int):=fun e=>hm ⟨x,f,e⟩
    omega
   omega
theorem zNU (u:h.Nodup)(T: ∀p∈h,∃nd,Qf E t [] p=some nd):h.length - (dsk h).length<=t.length/\(dsk h).length<=8192/\(dsk h).length<=h.length:=by
 have hl:=List.length_eq_countP_add_countP (fun p:Ptr=>decide (p.at_≠1)) (l:=h);have x:List.countP (fun p:Ptr=>decide (p.at_≠1)) h=(dsk h).length:=List.countP_eq_length_filter ..;have y:List.countP (fun a:Ptr=>decide ¬(decide (a.at_≠1))=true) h=(h.filter fun a:Ptr=>decide ¬(decide (a.at_≠1))=true).length:=List.countP_eq_length_filter ..;rw[x,y]at hl;have C:=zHE t (h.filter fun a:Ptr=>decide ¬(decide (a.at_≠1))=true) (u.filter _) fun p hp=>by
  obtain⟨m,o⟩:=List.mem_filter.1 hp;have q:p.at_=1:=by simpa using o
  obtain⟨nd,j⟩:=T p m;obtain⟨s,rfl,f | ⟨_,f⟩⟩ | ⟨_,f⟩:=uK j
  .simp[jX]at f
  .exact⟨s,nd,rfl,f⟩
  .have:=(bU f).2;omega
 have J:=zDg 8192 (dsk h) (u.filter _) fun p hp=>by
  obtain⟨m,o⟩:=List.mem_filter.1 hp;have q:p.at_≠1:=by simpa using o
  obtain⟨nd,j⟩:=T p m;have z:=zB1 j;simp only[Nd.kidOk,zE,zR]at z;obtain⟨s,rfl,_⟩ | ⟨_,f⟩:=uK j
  .exact absurd rfl q
  .exact⟨⟨nd,f⟩,by omega⟩
 omega
def zKq {nd:Bt.Tr k}(f:Qf E t [] e=some l)(j:kU (Qf E t []) k l nd h): ∀x∈e::h,∃l,Qf E t [] x=some l:=fun x a=>by
 rcases zK.1 a with rfl | a
 .exact⟨l,f⟩
 .exact kU.here j x a
theorem UC {q:Bt.Tr k}(f:Qf E t [] e=some l)(a:kU (Qf E t []) k l q h)(wr:WR k q)(nd0:(e::h).Nodup):U1 E t [e] (con k q) (1+h.length)/\1+h.length<=8192+t.length:=by
 constructor
 .refine⟨con k q,[],1+h.length,0,⟨l,k,q,h,none,none,f,a,wr.gen,fun j=> ?_,wr.sz,rfl,rfl⟩,⟨rfl,rfl⟩,by simp,by omega⟩
  cases k with
  | zero=>omega
  | succ k=>rw[a.2.1];exact wr.2.1
 .have:=zNU nd0 (zKq f a);simp only[zT]at this;omega
end Go.Eng.Sh
namespace Go.Eng
end Go.Eng
namespace Go.Eng.Sh
open Go.Nd (Srt)
open Go.Bt
variable {E:Ev}
theorem cQ: ∀l:List Ptr,(l.flatMap jS).length=l.length*3
 | []=>rfl
 | p::l=>by
  rw[qJ,zV,cQ l,zT];show 3+l.length*3=_;omega
def TI.hold (m:TI E i k v p I e H t q Y): ∀kv∈H,∀B,xS kv.2 B->B<i.next:=fun kv f B o=>by
 obtain⟨At,h⟩:=m.pq.mem kv f;exact h.lt o
end Go.Eng.Sh
namespace Go.Eng
theorem KQ {κ:IntKind}{m:Int} : ∀ {a:AV},aveq (.int κ m) a=true->a= .int κ m:=by
 intro a h
 cases a<;>simp only[aveq]at h
 case int k z=>
  rw[zE]at h;have f:=h.1;have j:=h.2;rw[xX]at f;rw[xY]at j;simp only[zR,beq_iff_eq]at f j;subst f;subst j;rfl
 all_goals cases h
theorem zCJ (κ:IntKind)(m j:Int):aveq (.int κ j) (.int κ m)=decide (j=m):=by
 have:keq κ κ=true:=by rw[xX];simp
 simp only[aveq,this,Bool.true_and,xY];rw[yI];simp
theorem UY {κ:IntKind}{m:Int}{v:AV} : ∀ {es es':List (AV×AV)},K1 (.int κ m) v es=some es'-> ∀j:Int,wB (.int κ j) es'=if j=m then some v else wB (.int κ j) es
 | [],_,h,_=>by cases h
 | (a,b)::es,es',h,j=>by
  simp only[K1]at h
  cases e:aveq (.int κ m) a with
  | true=>
   rw[e]at h;have p:=KQ e;subst p;obtain rfl:=qT h;simp only[wB,zCJ];by_cases f:j=m
   .simp[f]
   .simp[f]
  | false=>
   rw[e]at h;simp only[qH]at h
   cases o:K1 (.int κ m) v es with
   | none=>rw[o]at h;cases h
   | some r=>
    rw[o]at h;obtain rfl:=qT h;have q:=UY o j;simp only[wB,q];by_cases f:j=m
    .subst f;simp[e]
    .simp[f]
theorem zBv {κ:IntKind}{m:Int}{v:AV} : ∀ {es:List (AV×AV)},K1 (.int κ m) v es=none-> ∀j:Int,wB (.int κ j) (es++[(.int κ m,v)])=if j=m then some v else wB (.int κ j) es
 | [],_,j=>by
  simp only[qX,wB,zCJ];by_cases f:j=m<;>simp[f]
 | (a,b)::es,h,j=>by
  simp only[K1]at h
  cases e:aveq (.int κ m) a with
  | true=>rw[e]at h;cases h
  | false=>
   rw[e]at h;simp only[qH]at h
   cases o:K1 (.int κ m) v es with
   | some r=>rw[o]at h;cases h
   | none=>
    have p:=zBv o j;simp only[qF,wB,p];by_cases f:j=m
    .subst f;simp[e]
    .simp[f]
theorem zPE {κ:IntKind}{ks:List Nat}(a:i.ok)(h:i.h.get k=some (.map ks H))(p:Y4 ks ks=true){m:Int}(o:xO ks (.int κ m)=true)(v:AV):
  ∃H' es',upM ks (.map k) (.int κ m) v i=some (jQ,H')/\H'.h.get k=some (.map ks es')/\(∀j:Int,wB (.int κ j) es'=if j=m then some v else wB (.int κ j) H)/\Stp (fun B=>B=k) i H'/\H'.next=i.next:=by
 cases f:K1 (.int κ m) v H with
 | some es'=>
  refine⟨i.put k (.map ks es'),es', ?_,by rw[zRk,if_pos rfl],UY f,(zRo a).put (a.lt h) _ (.inr rfl),rfl⟩;simp only[upM,o,zP,h,p,f,kT]
 | none=>
  refine⟨i.put k (.map ks (H++[(.int κ m,v)])),_, ?_,by rw[zRk,if_pos rfl],zBv f,(zRo a).put (a.lt h) _ (.inr rfl),rfl⟩;simp only[upM,o,zP,h,p,f,kT]
end Go.Eng
namespace Go.Eng.Sh
open Go.Nd (Str)
open Go.Bk
theorem zLd(o:i.ok){nb:Nat}(N:64<=nb)(O:nb<=8192): ∃H' A j m,f32 D n [.int .i64 nb] i=some (.tuple [.ptr A 0, .int .i64 (0:Nat)],H')/\Prs i H'/\i.next<=A/\i.next<=j/\i.next<=m/\DkI H' A nb [] j m .nS []:=by
 obtain⟨S,A1,b1,f,p,T,Y⟩:=box o (.map [6] []);obtain⟨Z,A2,b2,a,q,m2,n2⟩:=box f.ok (.map [6] []);obtain⟨t,u,x,h,y,m3,n3⟩:=box a.ok (.cells [.int .i64 nb, .map A1, .nS, .map A2, .int .i64 (0:Nat), .nS, .bool false] 151 1 false);have N1:=f.next;have N2:=a.next
 refine⟨t,u,A1,A2, ?_,(f.trans a).trans h,by omega,by omega,by omega,⟨y,zRt (a.trans h) f.ok p,zRt h a.ok q,zRw ..,fun n=>rfl,fun w z=>(List.not_mem_nil z).elim,by simp,by omega⟩⟩;have C: ¬(nb:Int)< ((64:Nat):Int):=by omega
 have J: ¬((8192:Nat):Int)< (nb:Int):=by omega
 have K:vJ [(0,1),(1,1),(2,1),(3,1),(4,1),(5,1),(6,1)] [.int .i64 (0:Nat), .nM, .nS, .nM, .int .i64 (0:Nat), .nS, .bool false] [(0, .int .i64 nb),(1, .map A1),(3, .map A2)]=some (.agg [.int .i64 nb, .map A1, .nS, .map A2, .int .i64 (0:Nat), .nS, .bool false]):=rfl;simp(maxSteps:=999999)(disch:=omega) only[f32,f85,eZ,C,J,mkM,b1,b2,K,x]
theorem zJt (e:Nat){x c:AV}{r:List AV}(hr:s.length=512)(a:r.length=512)(h:isCell x=true):vJ [(0,1),(1,512)] (c::s) [(0,x),(1, .agg r)]=some (.agg (x::r))/\dW e 513 1 (c::s) [(0, .agg (x::r))]=some (.cells (x::r) e 513 false,fun A=> .slice A 0 1 2):=by
 have j:setAt (c::s) 0 [x]=some (x::s):=by rw[xI (by simp)];rfl
 have m:setAt (x::s) 1 r=some (x::r):=by
  rw[xI (by simp[hr,a])];have:(x::s).drop (1+r.length)=[]:=qO (by simp[hr,a]);rw[this];simp
 have o:setAt (c::s) 0 (x::r)=some (x::r):=by
  rw[xI (by simp[hr,a])];have:(c::s).drop (0+(x::r).length)=[]:=qO (by simp[hr,a]);rw[this];simp
 have l1:(Z9 [x] 0).beq 1=true:=rfl;have p:(Z9 r 0).beq 512=true:=by rw[jY,a];exact yF _
 have q:(Z9 (x::r) 0).beq 513=true:=by rw[jY,zT,a];exact yF _
 have t:=kO h;constructor
 .simp only[vJ,fD,zJY,t,l1,zP,j];simp only[jU,p,zP,m]
 .have f:rep 1 (c::s)=c::s:=by simp only[rep,yB]
  simp only[dW,f,fD,jU,q,zP,Nat.zero_mul,o]
theorem zG6(y:i.ok){ws:Ws}(d:DkI i k v ws q C p H)(a9:G<v){b:Str}(hb:b.length=512)(hf:ws.length<1000000):
  ∃H' a0 es',f26 D n [.ptr k 0, .int .i64 G, .agg (jO b)] i=some (.int .i64 (0:Nat),H')/\DkI H' k v (ws++[(G,b)]) q C a0 es'/\Stp (fun B=>B=k\/B=C\/Blk p B) i H'/\(∀B,Blk a0 B->Blk p B\/i.next<=B):=by
 obtain⟨Z,hZ⟩: ∃Z:Str,Z=List.replicate 512 0:=⟨_,rfl⟩;have b0:rep 512 [AV.int .u8 (0:Nat)]=jO Z:=by rw[ZK,hZ]
 have b2:(jO Z).length=512:=by rw[jT,hZ];exact List.length_replicate
 obtain⟨H1,A5,b1,J,g1,m1,n1⟩:=box y (.cells (jO b) 55 1 false);have Ad:=d.prs y J;have ha:=zN3 D n Ad a9;have b4: ¬(((0:Nat):Int)≠((0:Nat):Int)):=by omega
 have r3:Eng.ld1 (.ptr k 3) H1=some (.map C):=by rw[jM Ad.gD];rfl
 have r2:Eng.ld1 (.ptr k 2) H1=some p:=by rw[jM Ad.gD];rfl
 have lD:=y.lt d.gD;have lN:=y.lt d.gN;have lO:=y.lt d.gO;have a4:k≠C:=fun e=>by have:=d.gD;rw[e,d.gN]at this;cases this
 have b5:k≠q:=fun e=>by have:=d.gD;rw[e,d.gO]at this;cases this
 have wA: ∀B,Blk p B->B<i.next/\B≠k/\B≠q/\B≠C:=fun B a=>by
  have g:=d.ow.get a;refine⟨y.lt g,fun e=> ?_,fun e=> ?_,fun e=> ?_⟩
  .rw[e,d.gD]at g;simp at g
  .rw[e,d.gO]at g;cases g
  .rw[e,d.gN]at g;cases g
 obtain⟨O,es',e2,g2,f2,t,n2⟩:=zPE J.ok Ad.gN rfl (m:=(G:Int)) (keyI _) (.int .i64 ws.length);have N1:=J.next
 have a5:O.h.get k=_:=(t.keep _ (by omega) a4).trans Ad.gD;have b6:O.h.get q=_:=(t.keep _ (by omega) d.ne).trans Ad.gO;have b7:Eng.ld1 (.ptr k 2) O=some p:=by rw[jM a5];rfl
 have g5:O.h.get A5=_:=(t.keep _ (by omega) (by omega)).trans g1;have rb:=ldR g5 hb;have T:(jO b).length=512:=by rw[jT,hb]
 obtain⟨q1,q2⟩:=zJt 153 (x:= .int .i64 G) (c:= .int .i64 (0:Nat)) b2 T rfl;obtain⟨S,A6,b3,u,g3,m3,n3⟩:=box t.ok (.cells (.int .i64 G::jO b) 153 513 false);have a8:srcOf 513 (.slice A6 0 1 2) S=some (1,wV (G,b)):=by
  have b8:bC (AV.int .i64 G::jO b) 0 (1*513)=some (wV (G,b)):=by
   rw[wC _ _ _ (.inr (by simp[T])),yL,zY (by simp[T])];rfl
  simp only[srcOf,g3,b8]
 have N2:=t.next;have N3:=u.next
 have b9:Own 513 153 S p ws.length (ws.flatMap wV):=((d.ow.mono J fun _ _ x=>x).mono t fun B a=>(wA B a).2.2.2).mono u fun _ _ x=>x
 have c0:jP (wV (G,b))=true:=by
  have:=bytesV_cells b;simp only[wV,jP,this];rfl
 obtain⟨H4,e4,c1,nb,n4⟩:=gH (bytes:=520) (m:=1) u.ok (by decide) b9 a8 (by rw[zDV hb]) c0 (by omega) (by omega) (by decide);have N4:=nb.next
 have a6:H4.h.get k=_:=(nb.keep _ (by omega) (fun a=>(wA k a).2.1 rfl)).trans ((u.keep _ (by omega) (fun x=>x)).trans a5);have c3:Eng.ld1 (.ptr k 2) H4=some p:=by rw[jM a6];rfl
 obtain⟨H5,e5,a7,K,n5⟩:=xM nb.ok a6 (o:=2) (x:= .slice S.next 0 (ws.length+1) 1) rfl (by simp)
 have c2:Eng.ld1 (.ptr k 4) H5=some (.int .i64 (0:Nat)):=by rw[jM a7];rfl
 refine⟨H5, .slice S.next 0 (ws.length+1) 1,es', ?_,⟨a7, ?_, ?_, ?_,fun j=> ?_,fun w N=> ?_,by simp;omega,d.ne⟩,⟨K.ok,by omega,fun B a Y=> ?_⟩,fun B a=> .inr (by rw[zRl.1 a];omega)⟩
 .simp(maxSteps:=999999)(disch:=omega) only[f26,f75,eZ,b1,ha,b4,r3,r2,Ad.ow.row.lnSl,e2,b7,rb,b0,qF,qX,q1,q2,b3,e4,e5,c2]
 .rw[K.keep _ (by omega) (fun e=>b5 e.symm),nb.keep _ (by omega) (fun a=>(wA q a).2.2.1 rfl),u.keep _ (by omega) (fun x=>x)];exact b6
 .rw[K.keep _ (by omega) (fun e=>a4 e.symm),nb.keep _ (by omega) (fun a=>(wA C a).2.2.2 rfl),u.keep _ (by omega) (fun x=>x)];exact g2
 .have:=c1.mono K fun B a=>by rw[zRl.1 a];omega
  simpa[yV]using this
 .rw[f2,J1,d.nw j];by_cases e:G=j
  .subst e;simp
  .have e': ¬((j:Nat):Int)=(G:Int):=by omega
   rw[if_neg e',if_neg e]
 .rcases qA.1 N with N | N
  .exact d.ln w N
  .obtain rfl:w=(G,b):=by simpa using N
   exact hb
 .have a1: ¬B=k:=fun e=>Y (.inl e)
  have a2: ¬B=C:=fun e=>Y (.inr (.inl e))
  have a3: ¬Blk p B:=fun e=>Y (.inr (.inr e))
  rw[K.keep B (by omega) a1,nb.keep B (by omega) a3,u.keep B (by omega) (fun x=>x),t.keep B (by omega) a2,J.keep B a (fun x=>x)]
end Go.Eng.Sh
namespace Go.Eng
theorem bW (n A off:Nat)(k:IntKind){z:Int}(i:Nat)(f:z=(i:Int))(h:i<n):fQ n 1 (.ptr A off) (.int k z)=some (.ptr A (off+i)):=by
 subst f;have a:=kL k (z:=(i:Int)) (by omega);simp only[yC]at a;have hb:Nat.blt i n=true:=by rw[qE];exact h
 simp only[fQ,a,hb,zP,kF,Nat.mul_one]
end Go.Eng
namespace Go.Bk
def cnt (is:Nat->Nat)(w:Nat):Nat->Nat
 | 0=>0
 | n+1=>cnt is w n+(if is n=w then 1 else 0)
def VL (is:Nat->Nat)(i b:Nat):Nat->Nat:=fun j=>if j=i then b else is j
theorem fO (is:Nat->Nat)(i b:Nat):VL is i b i=b:=by simp[VL]
theorem gZ (h:q≠k):VL w k v q=w q:=by simp[VL,h]
theorem zFa (is:Nat->Nat)(w:Nat): ∀n,cnt is w n<=n
 | 0=>zM _
 | n+1=>by
  have:=zFa is w n;simp only[cnt];split<;>omega
theorem zN0 {is a:Nat->Nat}{w:Nat} : ∀ {n:Nat},(∀i,i<n->(is i=w↔a i=w))->cnt is w n=cnt a w n
 | 0,_=>rfl
 | n+1,h=>by
  have j:=zN0 (n:=n) fun i hi=>h i (by omega)
  have f:=h n (by omega);simp only[cnt,j];by_cases e:is n=w
  .rw[if_pos e,if_pos (f.1 e)]
  .rw[if_neg e,if_neg fun x=>e (f.2 x)]
theorem zAP {is:Nat->Nat}{i a b:Nat}(p:is i=a)(m:a≠b): ∀ {n:Nat},(i<n->cnt (VL is i b) b n=cnt is b n+1/\cnt (VL is i b) a n+1=cnt is a n)/\(¬i<n->cnt (VL is i b) b n=cnt is b n/\cnt (VL is i b) a n=cnt is a n)
 | 0=>⟨fun h=>by omega,fun _=>⟨rfl,rfl⟩⟩
 | n+1=>by
  obtain⟨t,q⟩:=zAP p m (n:=n);refine⟨fun h=> ?_,fun h=> ?_⟩
  .by_cases e:i=n
   .subst e;obtain⟨f,j⟩:=q (by omega);simp only[cnt,fO,if_true,f,j,p];simp[m,Ne.symm m]
   .obtain⟨f,j⟩:=t (by omega);have o:n≠i:=fun x=>e x.symm
    simp only[cnt,gZ o,f];omega
  .obtain⟨f,j⟩:=q (by omega);have o:n≠i:=by omega
   simp only[cnt,gZ o,f,j,and_self]
theorem zJg (f:w k=v)(h:C≠v)(m:C≠q)(n:Nat):cnt (VL w k q) C n=cnt w C n:=by
 refine zN0 fun j _=> ?_
 by_cases e:j=k
 .subst e;rw[fO,f];exact⟨fun x=>absurd x.symm m,fun x=>absurd x.symm h⟩
 .rw[gZ e]
theorem zMZ {is:Nat->Nat}{w:Nat} : ∀ {n:Nat},0<cnt is w n-> ∃i,i<n/\is i=w
 | 0,h=>by simp[cnt]at h
 | n+1,h=>by
  simp only[cnt]at h;by_cases e:is n=w
  .exact⟨n,by omega,e⟩
  .rw[if_neg e]at h;obtain⟨i,f,a⟩:=zMZ (n:=n) (by omega);exact⟨i,by omega,a⟩
def fnd (is:Nat->Nat)(w:Nat):Nat->Nat->Option Nat
 | 0,_=>none
 | d+1,i=>if is i=w then some i else fnd is w d (i+1)
theorem KG {is:Nat->Nat}{w:Nat} : ∀ {d i j:Nat},fnd is w d i=some j->i<=j/\j<i+d/\is j=w
 | 0,_,_,h=>by cases h
 | d+1,i,j,h=>by
  simp only[fnd]at h;split at h
  .rename_i e;obtain rfl:=qT h;exact⟨zM _,by omega,e⟩
  .obtain⟨f,m,a⟩:=KG h;exact⟨by omega,by omega,a⟩
theorem zEK {is:Nat->Nat}{w:Nat} : ∀ {d i:Nat},fnd is w d i=none-> ∀j,i<=j->j<i+d->is j≠w
 | 0,_,_,j,h1,h2=>by omega
 | d+1,i,h,j,h1,h2=>by
  simp only[fnd]at h;split at h
  .cases h
  .rename_i e;by_cases a:j=i
   .subst a;exact e
   .exact zEK h j (by omega) (by omega)
end Go.Bk
namespace Go.Eng.Sh
open Go.Bk
def Spc (H:AH)(A nb la:Nat)(is:Nat->Nat):Prop:= ∃c,H.h.get A=some (.cells c 145 1 false)/\c.length=8198/\c[0]? =some (.int .i64 nb)/\c[1]? =some (.int .i64 la)/\(∀i,i<8192->c[2+i]? =some (.int .u8 (is i:Nat)))/\(∀k,k<4->c[8194+k]? =some (.int .i64 (cnt is k nb:Nat)))/\nb<=8192/\la<8192/\ ∀i,is i<4
theorem Spc.stp {S:Nat->Prop}{H H':AH}{A nb la:Nat}{is:Nat->Nat}(h:Spc H A nb la is)(a:H.ok)(s:Stp S H H')(f: ¬S A):Spc H' A nb la is:=by
 obtain⟨c,g,h⟩:=h;exact⟨c,by rw[s.keep _ (a.lt g) f];exact g,h⟩
theorem Spc.lt {H:AH}{A nb la:Nat}{is:Nat->Nat}(h:Spc H A nb la is)(a:H.ok):A<H.next:=by
 obtain⟨c,g,h⟩:=h;exact a.lt g
theorem zD8{i a b:Nat}(h:Spc F k v q w)(N:F.ok)(hi:i<v)(f:w i=a)(hb:b<4)(J:a≠b):
  ∃H',f86 D n [.ptr k 0, .int .i64 i, .int .u8 b] F=some (.tuple [],H')/\Spc H' k v q (VL w i b)/\Stp (fun B=>B=k) F H'/\H'.next=F.next:=by
 obtain⟨c,g,hl,O,c1,t,p,S,T,u⟩:=h;have A:a<4:=by rw[<-f];exact u i
 obtain⟨q1,q2⟩:=(zAP f J (n:=v)).1 hi;have a0:=zFa w a v;have a1:=zFa w b v;obtain⟨Y,Z,y,z,n1⟩:=xM N g (o:=8194+a) (x:= .int .i64 (cnt (VL w i b) a v:Nat)) rfl (by omega);obtain⟨H2,m,g2,C,n2⟩:=xM z.ok y (o:=8194+b) (x:= .int .i64 (cnt (VL w i b) b v:Nat)) rfl (by simp;omega);obtain⟨H3,e3,g3,s3,n3⟩:=xM C.ok g2 (o:=2+i) (x:= .int .u8 b) rfl (by simp;omega);refine⟨H3, ?_,⟨_,g3,by simp[hl], ?_, ?_,fun j hj=> ?_,fun H K=> ?_,S,T,fun j=> ?_⟩,(z.trans C).trans s3,by omega⟩
 .have r0:ld1 (.ptr k (2+i)) F=some (.int .u8 a):=wY g (by rw[t i (by omega),f]);have r1:ld1 (.ptr k (8194+a)) F=some (.int .i64 (cnt w a v:Nat)):=wY g (p a A);have r2:ld1 (.ptr k (8194+b)) Y=some (.int .i64 (cnt w b v:Nat)):=wY y (by rw[y5 (by omega)];exact p b hb);have i0:fQ 8192 1 (.ptr k 2) (.int .i64 i)=some (.ptr k (2+i)):=bW 8192 k 2 .i64 i rfl (by omega);have i1:fQ 4 1 (.ptr k 8194) (.int .u8 a)=some (.ptr k (8194+a)):=bW 4 k 8194 .u8 a rfl A;have i2:fQ 4 1 (.ptr k 8194) (.int .u8 b)=some (.ptr k (8194+b)):=bW 4 k 8194 .u8 b rfl hb;have w1:((cnt w a v:Nat):Int) - ((1:Nat):Int)=((cnt (VL w i b) a v:Nat):Int):=by omega
  have w2:((cnt w b v:Nat):Int)+((1:Nat):Int)=((cnt (VL w i b) b v:Nat):Int):=by omega
  simp(maxSteps:=999999)(disch:=omega) only[f86,eZ,i0,r0,i1,r1,w1,Z,i2,r2,w2,m,e3]
 .rw[y5 (by omega),y5 (by omega),y5 (by omega)];exact O
 .rw[y5 (by omega),y5 (by omega),y5 (by omega)];exact c1
 .by_cases e:j=i
  .subst e;rw[List.getElem?_set_self (by simp;omega),fO]
  .rw[y5 (by omega),y5 (by omega),y5 (by omega),gZ e];exact t j hj
 .rw[y5 (by omega)];by_cases e:H=b
  .subst e;rw[List.getElem?_set_self (by simp;omega)]
  .rw[y5 (by omega)];by_cases m:H=a
   .subst m;rw[List.getElem?_set_self (by omega)]
   .rw[y5 (by omega),zJg f m e];exact p H K
 .by_cases e:j=i
  .subst e;rw[fO];exact hb
  .rw[gZ e];exact u j
theorem zHd (x:AV): ∀n,rep n [x]=List.replicate n x
 | 0=>rfl
 | n+1=>by rw[rep,zHd x n,List.replicate_succ];rfl
def zPh:Nat->Nat:=fun i=>if i<2 then 1 else 0
theorem zJh (w n:Nat):cnt (fun _=>w) w n=n:=by
 induction n with
 | zero=>rfl
 | succ n ih=>simp[cnt,ih]
theorem zLp (h:v≠k)(n:Nat):cnt (fun _=>v) k n=0:=by
 induction n with
 | zero=>rfl
 | succ n ih=>simp[cnt,ih,h]
theorem zO0:VL (VL (fun _=>0) 0 1) 1 1=zPh:=by
 funext i
 match i with
 | 0=>rfl
 | 1=>rfl
 | i+2=>rw[gZ (by omega),gZ (by omega),zPh,if_neg (by omega)]
theorem zNv(hn:100<=n)(hk:F.ok){nb:Nat}(t:64<=nb)(h2:nb<=8192): ∃H' A,f34 D n [.int .i64 nb] F=some (.tuple [.ptr A 0, .int .i64 (0:Nat)],H')/\Prs F H'/\F.next<=A/\Spc H' A nb 0 zPh:=by
 obtain⟨r,hr⟩: ∃r,r=rep 8192 [AV.int .u8 (0:Nat)]:=⟨_,rfl⟩;have p:=zHd (AV.int .u8 (0:Nat)) 8192;rw[<-hr]at p;have q:r.length=8192:=by rw[p,List.length_replicate]
 have S: ∀i,i<8192->r[i]? =some (.int .u8 (0:Nat)):=fun i hi=>by rw[p,List.getElem?_replicate,if_pos hi]
 clear p;obtain⟨j,u⟩: ∃j,j=[AV.int .i64 (0:Nat), .int .i64 (0:Nat), .int .i64 (0:Nat), .int .i64 (0:Nat)]:=⟨_,rfl⟩;have hb:vJ [(0,1),(1,1),(2,8192),(8194,4)] ([AV.int .i64 (0:Nat), .int .i64 (0:Nat)]++r++j) [(0, .int .i64 nb)]=some (.agg ([AV.int .i64 nb, .int .i64 (0:Nat)]++r++j)):=rfl;obtain⟨c,f⟩: ∃c,c=[AV.int .i64 nb, .int .i64 (0:Nat)]++r++j:=⟨_,rfl⟩;have T:c.length=8198:=by rw[f,u];simp[q]
 have c0:c[0]? =some (.int .i64 nb):=by rw[f];rfl
 have c1:c[1]? =some (.int .i64 (0:Nat)):=by rw[f];rfl
 have g0: ∀i,i<8192->c[2+i]? =some (.int .u8 (0:Nat)):=fun i hi=>by
  rw[f,zZ,jB (by simp),yY (by simp[q];omega)];simpa using S i hi
 have g4: ∀i,i<4->c[8194+i]? =some (.int .i64 (0:Nat)):=fun i hi=>by
  rw[f,jB (by simp[q]),u];have:8194+i - ([AV.int .i64 nb, .int .i64 (0:Nat)]++r).length=i:=by simp[q]
  rw[this]
  match i,hi with
  | 0,_=>rfl
  | 1,_=>rfl
  | 2,_=>rfl
  | 3,_=>rfl
 rw[<-f]at hb;clear f;obtain⟨H1,A,b1,z,g1,m1,n1⟩:=box hk (.cells c 145 1 false);obtain⟨C,e2,g2,J,n2⟩:=xM z.ok g1 (o:=8194) (x:= .int .i64 nb) rfl (by omega);have Y:Spc C A nb 0 fun _=>0:=⟨_,g2,by simp[T],by rw[y5 (by omega)];exact c0,by rw[y5 (by omega)];exact c1,fun i hi=>by rw[y5 (by omega)];exact g0 i hi,fun k Z=>by
  by_cases e:k=0
  .subst e;rw[List.getElem?_set_self (by omega),zJh]
  .rw[y5 (by omega),zLp (fun h=>e h.symm)];exact g4 k Z,h2,by omega,fun _=>Nat.succ_pos 3⟩
 obtain⟨K,e3,a0,N,n3⟩:=zD8 D n Y J.ok (i:=0) (a:=0) (b:=1) (by omega) rfl (by omega) (by omega);obtain⟨m,e4,a3,s4,n4⟩:=zD8 D n a0 N.ok (i:=1) (a:=0) (b:=1) (by omega) rfl (by omega) (by omega);have N1:=z.next
 have i1:fQ 4 1 (.ptr A 8194) (.int .u8 (0:Nat))=some (.ptr A 8194):=bW 4 A 8194 .u8 0 rfl (by omega);refine⟨m,A, ?_,z.fresh ((J.trans N).trans s4) (fun B hB=>by omega),m1,by rw[<-zO0];exact a3⟩;obtain⟨k,rfl⟩: ∃k,n=k+1+1+1:=⟨n - 3,by omega⟩;have l0:zCf D (k+1+1+1) [.ptr A 0, .int .i64 (0:Nat)] C=some (.norm [.ptr A 0, .int .i64 (1:Nat)],K):=by
  have y:((0:Nat):Int)< ((2:Nat):Int):=by omega
  have t:((0:Nat):Int)+((1:Nat):Int)=((1:Nat):Int):=by omega
  simp(maxSteps:=999999)(disch:=omega) only[zCf,eZ,y,e3,t]
 have l1:zCf D (k+1+1+1) [.ptr A 0, .int .i64 (1:Nat)] K=some (.norm [.ptr A 0, .int .i64 (2:Nat)],m):=by
  have y:((1:Nat):Int)< ((2:Nat):Int):=by omega
  have t:((1:Nat):Int)+((1:Nat):Int)=((2:Nat):Int):=by omega
  simp(maxSteps:=999999)(disch:=omega) only[zCf,eZ,y,e4,t]
 have l2:zCf D (k+1+1+1) [.ptr A 0, .int .i64 (2:Nat)] m=some (.exit 0 [.ptr A 0],m):=by
  simp(maxSteps:=999999)(disch:=omega) only[zCf,eZ,y7]
 have O:kJ (k+1+1+1) (zCf D (k+1+1+1)) [.ptr A 0, .int .i64 (0:Nat)] C=some (.exit 0 [.ptr A 0],m):=by
  rw[kD l0,kD l1,jW l2]
 have a1: ¬(nb:Int)< ((64:Nat):Int):=by omega
 have a2: ¬((8192:Nat):Int)< (nb:Int):=by omega
 simp(maxSteps:=999999)(disch:=omega) only[f34,<-hr,eZ,a1,a2,<-u,hb,b1,i1,e2,O,zQH]
end Go.Eng.Sh
namespace Go.Eng
def zFN (a:i.ok)(o:AObj)(K:Nat->AH->Rs):VN i o K=K i.next (i.push o):=zDl a o K
theorem mx2S (a b:Nat):mx2 (.int .i64 a) (.int .i64 b)=some (.int .i64 (max a b:Nat)):=by
 by_cases h:a<b
 .have hb:ilt (a:Int) (b:Int)=true:=by rw[uO];simpa using h
  simp only[mx2,hb,zP,show max a b=b by omega]
 .have hb:ilt (a:Int) (b:Int)=false:=by rw[uO];simpa using h
  simp only[mx2,hb,qH,show max a b=a by omega]
end Go.Eng
namespace Go.Eng.Sh
open Go.Bk
theorem zKl(h:Spc i k v q w):f23 D n [.ptr k 0] i=some (.int .i64 (cnt w 0 v:Nat),i):=by
 obtain⟨c,g,hl,j,c1,m,a,o,p,H⟩:=h;have r1:ld1 (.ptr k (8194+0)) i=some (.int .i64 (cnt w 0 v:Nat)):=wY g (a 0 (by omega));have f:fQ 4 1 (.ptr k 8194) (.int .u8 (0:Nat))=some (.ptr k (8194+0)):=bW 4 k 8194 .u8 0 rfl (by omega);simp(maxSteps:=999999)(disch:=omega) only[f23,eZ,cq,f,r1]
theorem Spc.la' (h:Spc i k v q w)(f:i.ok){x:Nat}(j:x<8192): ∃H',stN 1 (.ptr k 1) (.int .i64 x) i=some (jQ,H')/\Spc H' k v x w/\Stp (fun B=>B=k) i H'/\H'.next=i.next:=by
 obtain⟨c,g,hl,m,c1,p,nb,t,N,u⟩:=h;obtain⟨y,z,C,J,K⟩:=xM f g (o:=1) (x:= .int .i64 x) rfl (by omega);refine⟨y,z,⟨_,C,by simp[hl], ?_, ?_,fun H hi=> ?_,fun A a=> ?_,t,j,u⟩,J,K⟩
 .rw[y5 (by omega)];exact m
 .rw[List.getElem?_set_self (by omega)]
 .rw[y5 (by omega)];exact p H hi
 .rw[y5 (by omega)];exact nb A a
theorem zNX (D:Dyn)(n:Nat){A:Nat}(h:Box i k (.ptr q 0))(m:Box i v (.int .u8 J))(u:Spc i q C G w):
  ∀d H a,H+d=C->d<a->match fnd w J d H with
   | none=>kJ a (JL D n) [.yT A, .ptr k 0, .ptr v 0, .int .i64 ((H:Nat):Int)] i=some (.exit 0 [],i)
   | some j=> ∀H',callV [] D (.yT A) [.int .i64 j] i=some (.bool false,H')->kJ a (JL D n) [.yT A, .ptr k 0, .ptr v 0, .int .i64 ((H:Nat):Int)] i=some (.ret (.tuple []),H'):=by
 obtain⟨c,g,hl,x,c1,y,nb,K,N,O⟩:=id u;have r0:ld1 (.ptr q 0) i=some (.int .i64 C):=wY g x;intro d
 induction d with
 | zero=>
  intro H a hi z;obtain⟨a,rfl⟩: ∃k',a=k'+1:=⟨a - 1,by omega⟩;have t: ¬((H:Nat):Int)< (C:Int):=by omega
  simp only[fnd];exact jW (by simp(maxSteps:=999999)(disch:=omega) only[JL,eZ,h.ld,r0,t])
 | succ d ih=>
  intro H a hi z;obtain⟨a,rfl⟩: ∃k',a=k'+1:=⟨a - 1,by omega⟩;have t:((H:Nat):Int)< (C:Int):=by omega
  have o:fQ 8192 1 (.ptr q 2) (.int .i64 ((H:Nat):Int))=some (.ptr q (2+H)):=bW 8192 q 2 .i64 H rfl (by omega);have p:ld1 (.ptr q (2+H)) i=some (.int .u8 (w H:Nat)):=wY g (y H (by omega));simp only[fnd];by_cases e:w H=J
  .rw[if_pos e];intro H' A4;have f:((w H:Nat):Int)=(J:Int):=by omega
   exact aO (by simp(maxSteps:=999999)(disch:=omega) only[JL,eZ,h.ld,r0,t,o,p,m.ld,f,A4])
  .rw[if_neg e];have f: ¬((w H:Nat):Int)=(J:Int):=by omega
   have hi1:((H:Nat):Int)+((1:Nat):Int)=((H+1:Nat):Int):=by omega
   have As:JL D n [.yT A, .ptr k 0, .ptr v 0, .int .i64 ((H:Nat):Int)] i=some (.norm [.yT A, .ptr k 0, .ptr v 0, .int .i64 (H+1:Nat)],i):=by
    simp(maxSteps:=999999)(disch:=omega) only[JL,eZ,h.ld,r0,t,o,p,m.ld,f,hi1]
   have:=ih (H+1) a (by omega) (by omega);rw[kD As];exact this
def ofR (is:Nat->Nat)(w nb ab:Nat):Option Nat:=if cnt is w nb=0 then none else fnd is w (nb - max (ab+1) 2) (max (ab+1) 2)
theorem zKK (D:Dyn)(n:Nat)(S:10000<=n){A:Nat}(h:Box i k (.ptr C 0))(m:Box i v (.int .u8 P))(t:Box i q (.int .i64 Q))(u:Spc i C G J w)(x:P<4)(N:Q<G)(O:2<=G):
  match ofR w P G Q with
   | none=>f207 D n [.yT A, .ptr k 0, .ptr v 0, .ptr q 0] i=some (.tuple [],i)
   | some j=> ∀H',callV [] D (.yT A) [.int .i64 j] i=some (.bool false,H')->f207 D n [.yT A, .ptr k 0, .ptr v 0, .ptr q 0] i=some (.tuple [],H'):=by
 obtain⟨c,g,hl,T,c1,Y,p,Z,h2,h4⟩:=id u;have r1:ld1 (.ptr C (8194+P)) i=some (.int .i64 (cnt w P G:Nat)):=wY g (p P x);have o:fQ 4 1 (.ptr C 8194) (.int .u8 P)=some (.ptr C (8194+P)):=bW 4 C 8194 .u8 P rfl x;have hi1:(Q:Int)+((1:Nat):Int)=((Q+1:Nat):Int):=by omega
 have hm:=mx2S (Q+1) 2;obtain⟨H,hi⟩: ∃H,H=max (Q+1) 2:=⟨_,rfl⟩;rw[<-hi]at hm;have a:=zNX D n (A:=A) h m u (G - H) H n (by omega) (by omega);simp only[ofR,<-hi];by_cases y:cnt w P G=0
 .rw[if_pos y];have f:((cnt w P G:Nat):Int)=((0:Nat):Int):=by omega
  simp(maxSteps:=999999)(disch:=omega) only[f207,eZ,h.ld,m.ld,o,r1,f]
 .rw[if_neg y];have f: ¬((cnt w P G:Nat):Int)=((0:Nat):Int):=by omega
  cases z:fnd w P (G - H) H with
  | none=>
   rw[z]at a;simp only at a⊢;simp(maxSteps:=999999)(disch:=omega) only[f207,eZ,h.ld,m.ld,o,r1,f,t.ld,hi1,hm,a,zMF]
  | some j=>
   rw[z]at a;simp only at a⊢;intro H' A4;have K:=a H' A4;simp(maxSteps:=999999)(disch:=omega) only[f207,eZ,h.ld,m.ld,o,r1,f,t.ld,hi1,hm,K]
def lpT (A1 A2 a:Nat):ALoop:=⟨.ready,none,195,0,[1,2,3],[.ptr A1 0, .ptr A2 0, .ptr a 0]⟩
theorem zQX (m H:Nat)(f:i.h.get k=some (.loop (lpT v q C)))(az:List AV):callV [] (dy (m+1)) (.yT k) az i=UG (dy m) m k (lpT v q C) az i:=by
 show YP (tabR (dy m) m) k az i=_;simp only[YP,f];rfl
theorem zFy(t:i.ok)(u:i.h.get k=some (.loop (lpT v q C)))(b1:Box i v (.ptr G 0))(b2:Box i q p)(b3:Box i C I)(N:Spc i G J P w)(hj:Q<J)(a7:w Q=0)
  (d1:q≠C) (T:q≠G) (Y:C≠G) (d4:v≠q) (d5:v≠C):
  ∃H',UG D n k (lpT v q C) [.int .i64 Q] i=some (.bool false,H')/\H'.h.get k=some (.loop { lpT v q C with state:= .done,pending:=some .ret})/\Box H' q (.int .i64 Q)/\Box H' C (.int .i64 (0:Nat))/\Spc H' G J Q (VL w Q 2)/\Stp (fun B=>B=k\/B=G\/B=q\/B=C) i H':=by
 obtain⟨c,O,_⟩:=id N;have A1:G≠k:=fun e=>by rw[e,u]at O;cases O
 have n1:v≠k:=fun e=>by obtain⟨_,hb⟩:=b1;rw[e,u]at hb;cases hb
 have Z:q≠k:=fun e=>by obtain⟨_,hb⟩:=b2;rw[e,u]at hb;cases hb
 have n3:C≠k:=fun e=>by obtain⟨_,hb⟩:=b3;rw[e,u]at hb;cases hb
 have a8:v≠G:=fun e=>by
  obtain⟨_,hb⟩:=b1;obtain⟨_,O,hl,_⟩:=N;rw[e,O]at hb;simp only[zB,AObj.cells.injEq]at hb;rw[hb.1]at hl;simp at hl
 have h2:J<=8192:=by obtain⟨_,_,_,_,_,_,_,h,_⟩:=N;exact h
 have f:Stp (fun B=>B=k) i (i.put k (.loop { lpT v q C with state:= .busy})):=(zRo t).put (t.lt u) _ (.inr rfl);have g1:(i.put k (.loop { lpT v q C with state:= .busy})).h.get k=some (.loop { lpT v q C with state:= .busy}):=by rw[zRk,if_pos rfl]
 have a0: ∀K:AH->Rs,uR k i K=K (i.put k (.loop { lpT v q C with state:= .busy})):=fun K=>by
  simp only[uR,u,lpT,kT]
 generalize i.put k (.loop { lpT v q C with state:= .busy})=H1 at f g1 a0;have a5:=b1.mono t f n1;have a9:=N.stp t f A1;obtain⟨H2,e2,b0,o,c3⟩:=zD8 D n a9 f.ok hj a7 (b:=2) (by omega) (by omega);have b4:=a5.mono f.ok o a8;obtain⟨H3,e3,b5,A2,c4⟩:=b0.la' o.ok (x:=Q) (by omega);have b6:=((b2.mono t f Z).mono f.ok o T).mono o.ok A2 T;obtain⟨H4,e4,b7,H⟩:=b6.st A2.ok (x:= .int .i64 Q) rfl;have b8:=(((b3.mono t f n3).mono f.ok o Y).mono o.ok A2 Y).mono A2.ok H (fun e=>d1 e.symm);obtain⟨A,e5,b9,m⟩:=b8.st H.ok (x:= .int .i64 (0:Nat)) rfl;have lA:=t.lt u;have N1:=f.next;have N2:=o.next;have N3:=A2.next;have N4:=H.next;have N5:=m.next
 have g5:A.h.get k=some (.loop { lpT v q C with state:= .busy}):=by
  rw[m.keep _ (by omega) (fun e=>n3 e.symm),H.keep _ (by omega) (fun e=>Z e.symm),A2.keep _ (by omega) (fun e=>A1 e.symm),o.keep _ (by omega) (fun e=>A1 e.symm)];exact g1
 have z:Stp (fun B=>B=k) A (A.put k (.loop { lpT v q C with state:= .done,pending:=some .ret})):=(zRo m.ok).put (m.ok.lt g5) _ (.inr rfl);have a6:KH k (some .ret) A=some (.bool false,A.put k (.loop { lpT v q C with state:= .done,pending:=some .ret})):=by
  simp only[KH,g5,kT,lpT]
 have c0:=b7.mono H.ok m d1;have c1:=(b5.stp A2.ok H (fun e=>T e.symm)).stp H.ok m (fun e=>Y e.symm);have r2:ld1 (.ptr v 0) H2=some (.ptr G 0):=b4.ld;refine⟨_, ?_,by rw[zRk,if_pos rfl],c0.mono m.ok z Z,b9.mono m.ok z n3,c1.stp m.ok z A1,⟨z.ok,by have:=z.next;omega,fun B hB S=> ?_⟩⟩
 .have hl:Y4 [1,2,3] (lpT v q C).live=true:=rfl;have c2:(lpT v q C).vals=[.ptr v 0, .ptr q 0, .ptr C 0]:=rfl;simp(maxSteps:=999999)(disch:=omega) only[UG,eZ,hl,c2,zP,a0,a5.ld,e2,r2,e3,e4,e5];exact a6
 .have a1: ¬B=k:=fun e=>S (.inl e)
  have a2: ¬B=G:=fun e=>S (.inr (.inl e))
  have a3: ¬B=q:=fun e=>S (.inr (.inr (.inl e)))
  have a4: ¬B=C:=fun e=>S (.inr (.inr (.inr e)))
  rw[z.keep B (by omega) a1,m.keep B (by omega) a4,H.keep B (by omega) a3,A2.keep B (by omega) a2,o.keep B (by omega) a2,f.keep B hB a1]
theorem take_one (m n:Nat)(hm:10000<=m)(o:i.ok){ab:Nat}(b1:Box i k (.ptr C 0))(b2:Box i v p)(b3:Box i q I)(sp:Spc i C G J w)(b5:ab<G)(b6:2<=G)
  (d1:v≠q) (d2:v≠C) (d3:q≠C) (d4:k≠v) (d5:k≠q):
  match ofR w 0 G ab with
  | none=> ∃H',(∀(z:AH->Rs) (S:AH->Nat->Rs) (A1:AH->Rs),(bR (f168 (dy (m+2)) n [.ptr C 0, .int .u8 (0:Nat), .int .i64 ab] i) fun a7 i=>VN i (.loop ⟨.ready,none,195,0,[1,2,3],[.ptr k 0, .ptr v 0, .ptr q 0]⟩) fun A i=>bR (rfC [(168,f168 (dy (m+2)) n),(86,f86 (dy (m+2)) n)] (dy (m+2)) a7 A i) fun _ i=>fT A i fun j i=>zEE j (z i) (S i) (A1 i))=z H')/\Prs i H'
  | some j=> ∃H',(∀(z:AH->Rs) (S:AH->Nat->Rs) (A1:AH->Rs),(bR (f168 (dy (m+2)) n [.ptr C 0, .int .u8 (0:Nat), .int .i64 ab] i) fun a7 i=>VN i (.loop ⟨.ready,none,195,0,[1,2,3],[.ptr k 0, .ptr v 0, .ptr q 0]⟩) fun A i=>bR (rfC [(168,f168 (dy (m+2)) n),(86,f86 (dy (m+2)) n)] (dy (m+2)) a7 A i) fun _ i=>fT A i fun j i=>zEE j (z i) (S i) (A1 i))=A1 H')/\Box H' v (.int .i64 ((j:Nat):Int))/\Box H' q (.int .i64 (0:Nat))/\Spc H' C G j (VL w j 2)/\Stp (fun B=>B=C\/B=v\/B=q) i H':=by
 obtain⟨H1,Z,q1,p1,g1,m1,n1⟩:=box o (.cells [.ptr C 0] 36 1 false);obtain⟨H2,a0,q2,T,g2,m2,n2⟩:=box p1.ok (.cells [.int .u8 (0:Nat)] 141 1 false);obtain⟨a,a4,q3,t,g3,m3,n3⟩:=box T.ok (.cells [.int .i64 ab] 3 1 false);have H:Prs a (a.push (.loop (lpT k v q))):=(zRo t.ok).push _;have Y:(a.push (.loop (lpT k v q))).h.get a.next=some (.loop (lpT k v q)):=zRg _ _
 have a5: ∀K:Nat->AH->Rs,VN a (.loop ⟨.ready,none,195,0,[1,2,3],[.ptr k 0, .ptr v 0, .ptr q 0]⟩) K=K a.next (a.push (.loop (lpT k v q))):=fun K=>zFN t.ok _ K
 generalize a.push (.loop (lpT k v q))=H4 at H Y a5;have P3:=(p1.trans T).trans t;have u:=P3.trans H;have N1:=p1.next;have N2:=T.next;have N3:=t.next;have N4:=H.next
 have l1:=b1.lt o;have l2:=b2.lt o;have l3:=b3.lt o;have lS:=sp.lt o;have c3:Box H4 Z (.ptr C 0):=⟨_,zRt ((T.trans t).trans H) p1.ok g1⟩;have c4:Box H4 a0 (.int .u8 (0:Nat)):=⟨_,zRt (t.trans H) T.ok g2⟩;have c5:Box H4 a4 (.int .i64 ab):=⟨_,zRt H t.ok g3⟩;have b0:=sp.stp o u (fun p=>p);have A2:=zKK (dy (m+1)) (m+1) (by omega) (A:=a.next) c3 c4 c5 b0 (by omega) b5 b6
 have a9:f168 (dy (m+2)) n [.ptr C 0, .int .u8 (0:Nat), .int .i64 ab] i=some (.func 207 [] [.ptr Z 0, .ptr a0 0, .ptr a4 0],a):=by
  simp only[f168,eZ,cbx,q1,q2,q3]
 cases hr:ofR w 0 G ab with
 | none=>
  rw[hr]at A2;simp only at A2⊢;have f:Stp (fun B=>B=a.next) H4 (H4.put a.next .dead):=(zRo H.ok).put (H.ok.lt Y) _ (.inr rfl)
  have a6: ∀K:Option Code->AH->Rs,fT a.next H4 K=K none (H4.put a.next .dead):=fun K=>by
   simp only[fT,Y,lpT,kT]
  have a8:rfC [(168,f168 (dy (m+2)) n),(86,f86 (dy (m+2)) n)] (dy (m+2)) (.func 207 [] [.ptr Z 0, .ptr a0 0, .ptr a4 0]) a.next H4=some (.tuple [],H4):=A2
  refine⟨_,fun z S A1=> ?_,u.fresh f fun B hB=>by omega⟩;simp only[a9,bR,a5,a8,a6,zEE]
 | some j=>
  rw[hr]at A2;simp only at A2⊢;have hj:j<G/\w j=0:=by
   simp only[ofR]at hr;split at hr
   .cases hr
   .obtain⟨h1,h2,h3⟩:=KG hr;exact⟨by omega,h3⟩
  obtain⟨N,e5,g5,b7,b8,b9,f⟩:=zFy (dy m) m u.ok Y (b1.mono o u (fun p=>p)) (b2.mono o u (fun p=>p)) (b3.mono o u (fun p=>p)) b0 hj.1 hj.2 d1 d2 d3 d4 d5;have b4:=A2 N ((zQX m (m+1) Y _).trans e5);have a8:rfC [(168,f168 (dy (m+2)) n),(86,f86 (dy (m+2)) n)] (dy (m+2)) (.func 207 [] [.ptr Z 0, .ptr a0 0, .ptr a4 0]) a.next H4=some (.tuple [],N):=b4
  have O:Stp (fun B=>B=a.next) N (N.put a.next .dead):=(zRo f.ok).put (f.ok.lt g5) _ (.inr rfl)
  have a6: ∀K:Option Code->AH->Rs,fT a.next N K=K (some .ret) (N.put a.next .dead):=fun K=>by
   simp only[fT,g5,lpT,kT]
  have N5:=f.next;have N6:=O.next
  refine⟨_,fun z S A1=> ?_,b7.mono f.ok O (by omega),b8.mono f.ok O (by omega),b9.stp f.ok O (by omega),⟨O.ok,by omega,fun B hB hS=> ?_⟩⟩
  .simp only[a9,bR,a5,a8,a6,zEE]
  .have a1: ¬B=C:=fun e=>hS (.inl e)
   have a2: ¬B=v:=fun e=>hS (.inr (.inl e))
   have a3: ¬B=q:=fun e=>hS (.inr (.inr e))
   rw[O.keep B (by omega) (by omega),f.keep B (by omega) (fun e=>by rcases e with e | e | e | e<;>omega),u.keep B hB (fun p=>p)]
theorem zKd (m n:Nat)(hm:10000<=m)(hn:100<=n)(O:i.ok)(S:Spc i k v q w)(a2:q<v)(a0:2<=v)(h0:w 0≠0)(T:w 1≠0)(hf:0<cnt w 0 v):
  ∃H' j,f195 (dy (m+2)) n [.ptr k 0] i=some (.tuple [.int .i64 ((j:Nat):Int), .int .i64 (0:Nat)],H')/\2<=j/\j<v/\w j=0/\Spc H' k v j (VL w j 2)/\Stp (fun B=>B=k) i H':=by
 obtain⟨c,g,hl,c0,c1,hc,a7,q1,q2,q3⟩:=id S;obtain⟨H1,A1,b1,C,g1,m1,n1⟩:=box O (.cells [.ptr k 0] 36 1 false);obtain⟨H2,A2,b2,u,g2,m2,n2⟩:=box C.ok (.cells [.int .i64 (0:Nat)] 3 1 false);obtain⟨nb,y,b3,J,g3,m3,n3⟩:=box u.ok (.cells [.int .i64 (0:Nat)] 32 1 false);have a:=(C.trans u).trans J;have N1:=C.next;have N2:=u.next;have N3:=J.next
 have lS:=S.lt O;have K:=S.stp O a (fun x=>x);have o:Box nb A1 (.ptr k 0):=⟨_,zRt (u.trans J) C.ok g1⟩;have x2:Box nb A2 (.int .i64 (0:Nat)):=⟨_,zRt J u.ok g2⟩;have x3:Box nb y (.int .i64 (0:Nat)):=⟨_,g3⟩;have rl:ld1 (.ptr k 1) nb=some (.int .i64 q):=by
  obtain⟨c',g',_,_,a3,_⟩:=K;exact wY g' a3
 have a1:zLz 1 [.int .i64 (0:Nat), .int .i64 (0:Nat)] [(0, .int .i64 q),(1, .int .i64 (0:Nat))]=some (.agg [.int .i64 q, .int .i64 (0:Nat)]):=rfl;have i0:zC1 2 1 (.agg [.int .i64 q, .int .i64 (0:Nat)]) (.int .i64 (0:Nat))=some (.int .i64 q):=rfl;have i1:zC1 2 1 (.agg [.int .i64 q, .int .i64 (0:Nat)]) (.int .i64 (1:Nat))=some (.int .i64 (0:Nat)):=rfl;have t0:((0:Nat):Int)< ((2:Nat):Int):=by omega
 have t1:((1:Nat):Int)< ((2:Nat):Int):=by omega
 have a4:((0:Nat):Int)+((1:Nat):Int)=((1:Nat):Int):=by omega
 obtain⟨As,rfl⟩: ∃As,n=As+1+1:=⟨n - 2,by omega⟩;have t:=take_one m (As+1+1) hm a.ok o x2 x3 K a2 a0 (by omega) (by omega) (by omega) (by omega) (by omega)
 cases hr:ofR w 0 v q with
 | some j=>
  rw[hr]at t;simp only at t;obtain⟨z,Y,Z,y3,a5,s4⟩:=t;have p:2<=j/\j<v/\w j=0:=by
   simp only[ofR]at hr;split at hr
   .cases hr
   .obtain⟨T,h2,h3⟩:=KG hr;exact⟨by omega,by omega,h3⟩
  refine⟨z,j, ?_,p.1,p.2.1,p.2.2,a5,⟨s4.ok,by have:=s4.next;omega,fun B hB hS=> ?_⟩⟩
  .have l0:JM (dy (m+2)) (As+1+1) [.ptr A1 0, .ptr A2 0, .ptr y 0, .agg [.int .i64 q, .int .i64 (0:Nat)], .int .i64 (0:Nat)] nb=some (.ret (.tuple [.int .i64 ((j:Nat):Int), .int .i64 (0:Nat)]),z):=by
    simp(maxSteps:=999999)(disch:=omega) only[JM,eZ,t0,i0,o.ld,Y,Z.ld,y3.ld]
   simp(maxSteps:=999999)(disch:=omega) only[f195,eZ,cbx,cq,b1,b2,b3,o.ld,rl,a1,aO l0]
  .rw[s4.keep B (by omega) (fun e=>by rcases e with e | e | e<;>first | omega | exact hS e),a.keep B hB (fun x=>x)]
 | none=>
  rw[hr]at t;simp only at t;obtain⟨z,Y,h⟩:=t;have N4:=h.next
  have o2:=take_one m (As+1+1) hm h.ok (o.mono a.ok h (fun x=>x)) (x2.mono a.ok h (fun x=>x)) (x3.mono a.ok h (fun x=>x)) (K.stp a.ok h (fun x=>x)) (ab:=0) (by omega) a0 (by omega) (by omega) (by omega) (by omega) (by omega)
  cases f:ofR w 0 v 0 with
  | none=>
   exfalso;simp only[ofR]at f;rw[if_neg (by omega)]at f;obtain⟨H,hi,N⟩:=zMZ hf;have:H≠0/\H≠1:=⟨fun e=>h0 (e▸N),fun e=>T (e▸N)⟩;exact zEK f H (by omega) (by omega) N
  | some j=>
   rw[f]at o2;simp only at o2;obtain⟨H5,e5,Z,y3,a6,s5⟩:=o2;have p:2<=j/\j<v/\w j=0:=by
    simp only[ofR]at f;split at f
    .cases f
    .obtain⟨T,h2,h3⟩:=KG f;exact⟨by omega,by omega,h3⟩
   refine⟨H5,j, ?_,p.1,p.2.1,p.2.2,a6,⟨s5.ok,by have:=s5.next;omega,fun B hB hS=> ?_⟩⟩
   .have l0:JM (dy (m+2)) (As+1+1) [.ptr A1 0, .ptr A2 0, .ptr y 0, .agg [.int .i64 q, .int .i64 (0:Nat)], .int .i64 (0:Nat)] nb=some (.norm [.ptr A1 0, .ptr A2 0, .ptr y 0, .agg [.int .i64 q, .int .i64 (0:Nat)], .int .i64 (1:Nat)],z):=by
     simp(maxSteps:=999999)(disch:=omega) only[JM,eZ,t0,i0,o.ld,Y,a4]
    have l1:JM (dy (m+2)) (As+1+1) [.ptr A1 0, .ptr A2 0, .ptr y 0, .agg [.int .i64 q, .int .i64 (0:Nat)], .int .i64 (1:Nat)] z=some (.ret (.tuple [.int .i64 ((j:Nat):Int), .int .i64 (0:Nat)]),H5):=by
     simp(maxSteps:=999999)(disch:=omega) only[JM,eZ,t1,i1,(o.mono a.ok h (fun x=>x)).ld,e5,Z.ld,y3.ld]
    simp(maxSteps:=999999)(disch:=omega) only[f195,eZ,cbx,cq,b1,b2,b3,o.ld,rl,a1,kD l0,aO l1]
   .rw[s5.keep B (by omega) (fun e=>by rcases e with e | e | e<;>first | omega | exact hS e),h.keep B (by omega) (fun x=>x),a.keep B hB (fun x=>x)]
end Go.Eng.Sh
namespace Go.Bk
end Go.Bk
namespace Go.Eng.Sh
open Go.Bk
open Go.Nd (Str)
theorem zR0(t:1000<=n)(N:i.ok)(kind:UInt8){at_:Nat}(ha:1<=at_)(a0:at_<8192)(hb:k<=2147483647){body:Str}(hl:body.length<=500):
  ∃H',f196 D n [.int .i64 at_, .agg (jO (sealB kind k body))] i=some (.tuple [.agg (jS (fJ at_ k (sealB kind k body))), .int .i64 (0:Nat)],H')/\Prs i H':=by
 obtain⟨B,m⟩: ∃B,B=sealB kind k body:=⟨_,rfl⟩;have h:=sealB_len (kind:=kind) (birth:=k) hl;rw[<-m]at h;obtain⟨H1,A3,b1,o,O,m1,n1⟩:=box N (.cells (jO B) 55 1 false);obtain⟨H2,A4,b2,a,S,m2,n2⟩:=box o.ok (.cells [.int .i64 (0:Nat), .int .i64 (0:Nat), .int .u64 (0:Nat)] 42 1 false);have q:=zRt a o.ok O;obtain⟨H3,u,f⟩:=zHM D n t a.ok kind hb hl;rw[<-m]at u⊢;obtain⟨T,Y,j⟩:=zJs D n t f.ok h;have x:=zRt (f.trans j) a.ok S;have y:=zRt f a.ok q;obtain⟨p,Z,g5,s5,n5⟩:=jV j.ok x (l':=jS (fJ at_ k B)) rfl rfl;have z:stN 3 (.ptr A4 0) (.agg (jS (fJ at_ k B))) T=some (jQ,p):=Z;have r3:=ldR q h;have C:=ldR y h;have r5:ldN 3 (.ptr A4 0) p=some (.agg (jS (fJ at_ k B))):=xB g5 rfl;have J: ¬(((0:Nat):Int)≠((0:Nat):Int)):=by omega
 have t1: ¬(at_:Int)< ((1:Nat):Int):=by omega
 have t2: ¬((8192:Nat):Int)<=(at_:Int):=by omega
 have K:vJ [(0,1),(1,1),(2,1)] [.int .i64 (0:Nat), .int .i64 (0:Nat), .int .u64 (0:Nat)] [(0, .int .i64 at_),(1, .int .i64 k),(2, .int .u64 (U7 B:Nat))]=some (.agg (jS (fJ at_ k B))):=rfl;have N2:=a.next;have N3:=f.next;have N4:=j.next
 refine⟨p, ?_,(((o.trans a).trans f).trans j).fresh s5 fun B m=>by omega⟩;simp(maxSteps:=999999)(disch:=omega) only[f196,eZ,b1,b2,r3,u,jN,nth,J,t1,t2,C,Y,K,z,r5]
structure Wr (E:Ev)(H:AH)(Aw As At M Ad:Nat)(c:AV)(txg left la:Nat)(is:Nat->Nat)(root:Ptr)(es:List (AV×AV))(q:PN)(last:Nat)(dr:AV)(Z P:Nat->Prop):Prop where
 ti:TI E H At M (.ptr Ad 0) c root es q last dr
 sp:Spc H As E.nb la is
 few:E.ws.length+cnt is 0 E.nb<=990000
 gw: ∃On Nw wv ds tv ov nt tl ol,DkI H Ad E.nb E.ws On Nw wv ds/\H.h.get Aw=some (.cells [.ptr At 0, .ptr As 0, .int .i64 txg, .int .i64 left,tv,ov] 198 1 false)/\Own 1 3 H tv nt tl/\Own 513 202 H ov nt ol/\nt<=E.ws.length/\(∀B,Z B↔B=Aw\/B=As\/B=Ad\/B=Nw\/Blk wv B\/Blk tv B\/Blk ov B)/\ ¬Z On
 pr: ∀B,P B-> ¬Z B
 pa: ∀B,P B↔B=At\/B=M\/Blk dr B\/ ∃kv∈es,xS kv.2 B
 bd:2<=la\/la=0
 nb:64<=E.nb/\E.nb<=8192/\la<E.nb
 s0:is 0≠0/\is 1≠0
 lf:left<=1000000000
theorem Wr.lt {E:Ev}{H:AH}{Aw As At M Ad:Nat}{c:AV}{txg left la:Nat}{is:Nat->Nat}{root:Ptr}{es:List (AV×AV)}{q:PN}{h:Nat}{j:AV}{Z P:Nat->Prop}(w:Wr E H Aw As At M Ad c txg left la is root es q h j Z P): ∀B,Z B->B<H.next:=by
 obtain⟨x,y,z,C,J,K,nt,N,O,f,m,o,p,_,t,_⟩:=w.gw;have a:=w.ti.ok;intro B u;rcases(t B).1 u with rfl | rfl | rfl | rfl | e | e | e
 .exact a.lt m
 .exact w.sp.lt a
 .exact a.lt f.gD
 .exact a.lt f.gN
 .exact Own.lt f.ow e
 .exact Own.lt o e
 .exact Own.lt p e
theorem Wr.prs {E:Ev}{H H':AH}{Aw As At M Ad:Nat}{c:AV}{txg left la:Nat}{is:Nat->Nat}{root:Ptr}{es:List (AV×AV)}{q:PN}{a:Nat}{f:AV}{Z P:Nat->Prop}(w:Wr E H Aw As At M Ad c txg left la is root es q a f Z P)(s:Prs H H'):Wr E H' Aw As At M Ad c txg left la is root es q a f Z P:=by
 obtain⟨h,j,m,o,p,t,nt,u,y,z,C,J,K,N,O,S⟩:=w.gw;exact⟨w.ti.prs s,w.sp.stp w.ti.ok s fun x=>x,w.few,⟨h,j,m,o,p,t,nt,u,y,z.prs w.ti.ok s,zRt s w.ti.ok C,J.mono s fun _ _ x=>x,K.mono s fun _ _ x=>x,N,O,S⟩,w.pr,w.pa,w.bd,w.nb,w.s0,w.lf⟩
def TI.wr {E:Ev}{H H':AH}{At M Ad:Nat}{root:Ptr}{es:List (AV×AV)}{q:PN}{m:Nat}{h:AV}{Z:Nat->Prop}(a:TI E H At M (.ptr Ad 0) .nP root es q m h)(s:Stp Z H H')(f: ∀B,(B=At\/B=M\/Blk h B\/ ∃kv∈es,xS kv.2 B)-> ¬Z B){ws:Ws}{p t:Nat}{u:AV}{x:List (AV×AV)}(y:DkI H' Ad E.nb ws p t u x):TI { E with ws:=ws} H' At M (.ptr Ad 0) .nP root es q m h:=
 ⟨s.ok,by rw[s.keep _ (a.ok.lt a.gT) (f _ (.inl rfl))];exact a.gT,by rw[s.keep _ (a.ok.lt a.gM) (f _ (.inr (.inl rfl)))];exact a.gM,a.pq.frame fun kv o nd z=>z.stp s fun A j=>f _ (.inr (.inr (.inr ⟨kv,o,j⟩))),⟨_,_,_,_,_,rfl,y⟩, .inl rfl,a.dg.mono s fun A j=>f _ (.inr (.inr (.inl j))),a.ds,a.few,fun B C=>qG (a.xl B C) s.next⟩
theorem uL.old {H:AH} : ∀ {es:List (AV×AV)} {q:PN},uL H es q-> ∀kv∈es,∀B,xS kv.2 B->B<H.next
 | [],[],_=>fun _ h=>by simp at h
 | (k,v)::es,(s,nd)::q,h=>fun kv a B f=>by
  rcases zK.1 a with rfl | a
  .exact h.1.2.lt f
  .exact uL.old h.2 kv a B f
 | [],_::_,h=>h.elim
 | _::_,[],h=>h.elim
theorem Wr.old {E:Ev}{H:AH}{Aw As At M Ad:Nat}{c:AV}{txg left la:Nat}{is:Nat->Nat}{root:Ptr}{es:List (AV×AV)}{q:PN}{a:Nat}{h:AV}{Z P:Nat->Prop}(w:Wr E H Aw As At M Ad c txg left la is root es q a h Z P): ∀B,P B->B<H.next:=fun B j=>by
 rcases(w.pa B).1 j with rfl | rfl | e | ⟨kv,f,e⟩
 .exact w.ti.ok.lt w.ti.gT
 .exact w.ti.ok.lt w.ti.gM
 .exact w.ti.dg.lt e
 .exact w.ti.pq.old kv f B e
theorem Spc.bk (h:Spc i k v q w): ∃c,i.h.get k=some (.cells c 145 1 false):=by
 obtain⟨c,g,_⟩:=h;exact⟨c,g⟩
def kC {o p:AObj}(h:i.h.get k=some o)(H:i.h.get v=some p)(e:o≠p):k≠v:=fun x=>by
 rw[x,H]at h;exact e (qT h).symm
theorem zN8 (m n:Nat)(hm:10000<=m)(hn:1000<=n)(At:Wr W i k v q C G .nP J P Q w e H t R p A M)
  (kind:UInt8)  (hb:V<=2147483647) {body:Str} (hl:body.length<=500) (hf:0<cnt w 0 W.nb):
  ∃H' j Z',zQJ (dy (m+2)) n [.ptr k 0, .agg (jO (sealB kind V body))] i=some (.tuple [.agg (jS (fJ j V (sealB kind V body))), .int .i64 (0:Nat)],H')/\2<=j/\j<W.nb/\w j=0/\
   Wr { W with ws:=W.ws++[(j,sealB kind V body)] } H' k v q C G .nP J P j (VL w j 2) e H t R p Z' M/\AdT A i Z' H':=by
 obtain⟨b,a⟩: ∃b,b=sealB kind V body:=⟨_,rfl⟩;have a3:=sealB_len (kind:=kind) (birth:=V) hl;rw[<-a]at a3;obtain⟨On,As,wv,ds,S,T,nt,tl,ol,f,txg,ot,Y,k4,hZ,hO⟩:=At.gw;have left:=At.ti.ok;obtain⟨sc,gS⟩:=At.sp.bk;obtain⟨f3,f4,f5⟩:=At.nb;have a7:k≠v:=fun Ad=>by
  obtain⟨c,g,l8,_⟩:=At.sp;rw[<-Ad,txg]at g;simp only[zB,AObj.cells.injEq]at g;rw[<-g.1]at l8;simp at l8
 have a8:k≠G:=kC txg f.gD (by simp);have a9:k≠As:=kC txg f.gN (by simp);have b0:k≠On:=kC txg f.gO (by simp);have b3: ¬Blk wv k:=fun h=>kC txg (f.ow.get h) (by simp) rfl
 have f6: ¬Blk S k:=fun h=>kC txg (zRx ot h) (by simp) rfl
 have c3: ¬Blk T k:=fun h=>kC txg (zRx Y h) (by simp) rfl
 have c4:v≠G:=kC gS f.gD (by simp);have c5:v≠As:=kC gS f.gN (by simp);have c6:v≠On:=kC gS f.gO (by simp);have c7: ¬Blk wv v:=fun h=>kC gS (f.ow.get h) (by simp) rfl
 have c8: ¬Blk S v:=fun h=>kC gS (zRx ot h) (by simp) rfl
 have c9: ¬Blk T v:=fun h=>kC gS (zRx Y h) (by simp) rfl
 have f7: ¬Blk S G:=fun h=>kC f.gD (zRx ot h) (by simp) rfl
 have d0: ¬Blk T G:=fun h=>kC f.gD (zRx Y h) (by simp) rfl
 have f8: ¬Blk S As:=fun h=>kC f.gN (zRx ot h) (by simp) rfl
 have d1: ¬Blk T As:=fun h=>kC f.gN (zRx Y h) (by simp) rfl
 have f9: ¬Blk S On:=fun h=>kC f.gO (zRx ot h) (by simp) rfl
 have g0: ¬Blk T On:=fun h=>kC f.gO (zRx Y h) (by simp) rfl
 have g3: ∀B,Blk wv B-> ¬Blk S B:=fun B h E=>kC (f.ow.get h) (zRx ot E) (by simp) rfl
 have d2: ∀B,Blk wv B-> ¬Blk T B:=fun B h E=>kC (f.ow.get h) (zRx Y E) (by simp) rfl
 have g5: ∀B,Blk S B-> ¬Blk T B:=fun B h E=>kC (zRx ot h) (zRx Y E) (by simp) rfl
 have zA:A k:=(hZ k).2 (.inl rfl);have zS:A v:=(hZ v).2 (.inr (.inl rfl));have zD:A G:=(hZ G).2 (.inr (.inr (.inl rfl)));have zN:A As:=(hZ As).2 (.inr (.inr (.inr (.inl rfl))));have zw: ∀B,Blk wv B->A B:=fun B h=>(hZ B).2 (.inr (.inr (.inr (.inr (.inl h)))))
 have zt: ∀B,Blk S B->A B:=fun B h=>(hZ B).2 (.inr (.inr (.inr (.inr (.inr (.inl h))))))
 have zo: ∀B,Blk T B->A B:=fun B h=>(hZ B).2 (.inr (.inr (.inr (.inr (.inr (.inr h))))))
 obtain⟨H1,A3,b1,p1,g1,m1,n1⟩:=box left (.cells (jO b) 55 1 false);obtain⟨H2,A4,b2,p2,g2,m2,n2⟩:=box p1.ok (.cells [.int .i64 (0:Nat), .int .i64 (0:Nat), .int .u64 (0:Nat)] 42 1 false);have P2:=p1.trans p2;have N1:=p1.next;have N2:=p2.next
 have zl:=At.lt;obtain⟨H3,j,e3,j2,jn,j0,g7,K⟩:=zKd m n hm (by omega) p2.ok (At.sp.stp left P2 (fun x=>x)) f5 (by omega) At.s0.1 At.s0.2 hf;have N3:=K.next
 have d3: ∀ {la:Nat} {o:AObj},i.h.get la=some o->la≠v->H3.h.get la=some o:=fun {la o} g h=>by
  rw[K.keep la (by have:=left.lt g;omega) h];exact zRt P2 left g
 have d4:=d3 txg a7;have g9:Own 1 3 H3 S nt tl:=(ot.mono P2 fun _ _ x=>x).mono K fun B a Ad=>c8 (Ad▸a)
 obtain⟨H4,A5,b4,N,g4,m4,n4⟩:=box K.ok (.cells [.int .i64 ((j:Nat):Int)] 3 1 false);have N4:=N.next
 have e2:srcOf 1 (.slice A5 0 1 2) H4=some (1,[.int .i64 ((j:Nat):Int)]):=by simp only[srcOf,g4];rfl
 have k5:=At.few;have k6:=f.few;obtain⟨H5,e5,h0,s5,n5⟩:=gH (bytes:=8) (m:=1) N.ok (by decide) (g9.mono N fun _ _ x=>x) e2 rfl rfl (by omega) (by omega) (by decide);have N5:=s5.next
 have h4:=zRt N K.ok d4;have h5:H5.h.get k=_:=(s5.keep _ (by have:=left.lt txg;omega) f6).trans h4;obtain⟨H6,e6,g6,s6,n6⟩:=xM s5.ok h5 (o:=4) (x:= .slice H4.next 0 (nt+1) 1) rfl (by simp)
 have N6:=s6.next
 have a6: ∀ {la:Nat} {o:AObj},i.h.get la=some o->la≠v->la≠k-> ¬Blk S la->H6.h.get la=some o:=fun {la o} g h1 h2 h3=>by
  have:=left.lt g;rw[s6.keep la (by omega) h2,s5.keep la (by omega) h3];exact zRt N K.ok (d3 g h1)
 have h6:DkI H6 G W.nb W.ws On As wv ds:=by
  refine⟨a6 f.gD c4.symm a8.symm f7,a6 f.gO c6.symm b0.symm f9,a6 f.gN c5.symm a9.symm f8, ?_,f.nw,f.ln,f.few,f.ne⟩;exact((((f.ow.mono P2 fun _ _ x=>x).mono K fun B a Ad=>c7 (Ad▸a)).mono N fun _ _ x=>x).mono s5 fun B a E=>g3 B a E).mono s6 fun B a Ad=>b3 (Ad▸a)
 obtain⟨H7,b5,d5,e7,h7,z,a4⟩:=zG6 (dy (m+2)) n s6.ok h6 jn a3 (by omega);have N7:=z.next
 have d6:H6.h.get k=_:=g6;have d7:H7.h.get k=_:=(z.keep _ (by have:=left.lt txg;omega) (fun Ad=>by rcases Ad with Ad | Ad | Ad;exact a8 Ad;exact a9 Ad;exact b3 Ad)).trans d6;obtain⟨Z0,d8⟩: ∃Z0:Str,Z0=List.replicate 512 0:=⟨_,rfl⟩;have h8:rep 512 [AV.int .u8 (0:Nat)]=jO Z0:=by rw[ZK,d8]
 have h9:(jO Z0).length=512:=by rw[jT,d8];exact List.length_replicate
 have b6:(jO b).length=512:=by rw[jT,a3]
 obtain⟨q1,q2⟩:=zJt 202 (x:= .int .i64 ((j:Nat):Int)) (c:= .int .i64 (0:Nat)) h9 b6 rfl;obtain⟨H8,A6,b8,O,g8,m8,n8⟩:=box z.ok (.cells (.int .i64 ((j:Nat):Int)::jO b) 202 513 false);have N8:=O.next
 have e4:srcOf 513 (.slice A6 0 1 2) H8=some (1,wV (j,b)):=by
  have i0:bC (AV.int .i64 ((j:Nat):Int)::jO b) 0 (1*513)=some (wV (j,b)):=by
   rw[wC _ _ _ (.inr (by simp[b6])),yL,zY (by simp[b6])];rfl
  simp only[srcOf,g8,i0]
 have i1:Own 513 202 H6 T nt ol:=((((Y.mono P2 fun _ _ x=>x).mono K fun B a Ad=>c9 (Ad▸a)).mono N fun _ _ x=>x).mono s5 fun B a E=>g5 B E a).mono s6 fun B a Ad=>c3 (Ad▸a)
 have i2:Own 513 202 H7 T nt ol:=i1.mono z fun B a Ad=>by
  rcases Ad with Ad | Ad | Ad
  .exact d0 (Ad▸a)
  .exact d1 (Ad▸a)
  .exact d2 B Ad a
 have i3:jP (wV (j,b))=true:=by
  have:=bytesV_cells b;simp only[wV,jP,this];rfl
 obtain⟨H9,e9,i4,s9,n9⟩:=gH (bytes:=520) (m:=1) O.ok (by decide) (i2.mono O fun _ _ x=>x) e4 (by rw[zDV a3]) i3 (by omega) (by omega) (by decide);have N9:=s9.next
 have i5:H9.h.get k=_:=(s9.keep _ (by have:=left.lt txg;omega) c3).trans (zRt O z.ok d7);obtain⟨i6,i7,i8,y,k7⟩:=xM s9.ok i5 (o:=5) (x:= .slice H8.next 0 (nt+1) 1) rfl (by simp)
 have k8:=y.next
 obtain⟨i9,d9,Aw⟩:=zR0 (dy (m+2)) n hn y.ok kind (at_:=j) (by omega) (by omega) hb hl;rw[<-a]at d9;have k9:=Aw.next
 have e0: ∀ {la:Nat} {o:AObj},H2.h.get la=some o->i.next<=la->H6.h.get la=some o:=fun {la o} g h=>by
  have:=p2.ok.lt g;rw[s6.keep la (by omega) (by have:=left.lt txg;omega),s5.keep la (by omega) (fun a=>by have:=Own.lt ot a;omega),N.keep la (by omega) (fun x=>x),K.keep la (by omega) (by have:=left.lt gS;omega)];exact g
 have b7:=e0 (zRt p2 p1.ok g1) (by omega);have j1:=e0 g2 (by omega);have z6: ∀B,(B=G\/B=As\/Blk wv B)->B<i.next:=fun B a=>by
  rcases a with Ad | Ad | Ad
  .exact zl B (Ad▸zD)
  .exact zl B (Ad▸zN)
  .exact zl B (zw B Ad)
 have e1: ∀ {la:Nat} {o:AObj},H6.h.get la=some o->i.next<=la->la<H3.next->i6.h.get la=some o:=fun {la o} g h h3=>by
  rw[y.keep la (by omega) (by have:=left.lt txg;omega),s9.keep la (by omega) (fun a=>by have:=Own.lt Y a;omega),O.keep la (by omega) (fun x=>x),z.keep la (by omega) (fun a=>by have:=z6 la a;omega)];exact g
 have c1:=e1 b7 (by omega) (by omega);have e8:=zRt Aw y.ok (e1 j1 (by omega) (by omega));obtain⟨a5,j3,j4,a0,l0⟩:=jV Aw.ok e8 (l':=jS (fJ j V b)) rfl rfl;have f1:stN 3 (.ptr A4 0) (.agg (jS (fJ j V b))) i9=some (jQ,a5):=j3;have l1:=a0.next
 have j5:ldN 3 (.ptr A4 0) a5=some (.agg (jS (fJ j V b))):=xB j4 rfl;have j6:=ldR b7 a3;have l2:H9.h.get A3=some (.cells (jO b) 55 1 false):=by
  rw[<-y.keep A3 (by omega) (by have:=left.lt txg;omega)];exact c1
 have j7:H7.h.get A3=some (.cells (jO b) 55 1 false):=by
  rw[z.keep A3 (by omega) (fun a=>by have:=z6 A3 a;omega)];exact b7
 have f2:=ldR c1 a3;have j8:=ldR j7 a3;have j9:=zRt P2 left txg;have w1:Eng.ld1 (.ptr k 1) H2=some (.ptr v 0):=by rw[jM j9];rfl
 have w4:Eng.ld1 (.ptr k 4) H3=some S:=by rw[jM d4];rfl
 have w0:Eng.ld1 (.ptr k 0) H6=some (.ptr q 0):=by rw[jM d6];rfl
 have w5:Eng.ld1 (.ptr k 5) H7=some T:=by rw[jM d7];rfl
 have b9:M q:=(At.pa q).2 (.inl rfl);have k0:H6.h.get q=_:=a6 At.ti.gT (fun Ad=>At.pr q b9 (Ad▸zS)) (fun Ad=>At.pr q b9 (Ad▸zA)) (fun Ad=>At.pr q b9 (zt q Ad));have wT:Eng.ld1 (.ptr q 0) H6=some (.ptr G 0):=by rw[jM k0];rfl
 have k3: ¬(((0:Nat):Int)≠((0:Nat):Int)):=by omega
 refine⟨a5,j,fun B=>B=k\/B=v\/B=G\/B=As\/Blk b5 B\/Blk (.slice H4.next 0 (nt+1) 1) B\/Blk (.slice H8.next 0 (nt+1) 1) B, ?_,j2,jn,j0, ?_, ?_⟩
 .rw[<-a];simp(maxSteps:=999999)(disch:=omega) only[zQJ,eZ,b1,b2,w1,e3,jN,nth,k3,w4,zNE 3 (.int .i64 (0:Nat)) (show isCell (.int .i64 ((j:Nat):Int))=true from rfl),b4,e5,e6,w0,wT,j6,e7,w5,j8,h8,qF,qX,q1,q2,b8,e9,i7,f2,d9,f1,j5]
 ·
  have l3:=left.lt txg;have l4:=left.lt gS;have c2:DkI a5 G W.nb (W.ws++[(j,sealB kind V body)]) On As b5 d5:=by
   rw[<-a];have lD:=zl G zD;have lN:=zl As zN;have lO:=left.lt f.gO;refine((((h7.prs z.ok O).stp O.ok s9 d0 g0 d1 fun B hb hx=> ?_).stp s9.ok y a8.symm b0.symm a9.symm fun B hb hx=> ?_).prs y.ok Aw).stp Aw.ok a0 (by omega) (by omega) (by omega) fun B hb hx=> ?_
   .rcases a4 B hb with x | x
    .exact d2 B x hx
    .have:=Own.lt Y hx;omega
   .rcases a4 B hb with x | x
    .exact b3 (hx▸x)
    .omega
   .rcases a4 B hb with x | x
    .have:=zl B (zw B x);omega
    .omega
  have st:Stp A i a5:=⟨a0.ok,by omega,fun B a u=>by
   have a1:B≠k:=fun Ad=>u (Ad▸zA)
   have a2:B≠v:=fun Ad=>u (Ad▸zS)
   rw[a0.keep B (by omega) (by omega),Aw.keep B (by omega) (fun x=>x),y.keep B (by omega) a1,s9.keep B (by omega) (fun h=>u (zo B h)),O.keep B (by omega) (fun x=>x),z.keep B (by omega) (fun h=>by rcases h with Ad | Ad | Ad;exact u (Ad▸zD);exact u (Ad▸zN);exact u (zw B Ad)),s6.keep B (by omega) a1,s5.keep B (by omega) (fun h=>u (zt B h)),N.keep B (by omega) (fun x=>x),K.keep B (by omega) a2,P2.keep B a (fun x=>x)]⟩
  obtain⟨k1,k2⟩:=(zAP (b:=2) j0 (by omega) (n:=W.nb)).1 jn;refine⟨At.ti.wr st (fun B a=>At.pr B ((At.pa B).2 a)) c2, ?_, ?_,⟨On,As,b5,d5,_,_,nt+1,tl++[.int .i64 ((j:Nat):Int)],ol++wV (j,b),c2, ?_, ?_, ?_, ?_,fun B=>Iff.rfl, ?_⟩,fun B a hx=> ?_,At.pa, .inl j2,⟨f3,f4,jn⟩, ?_,At.lf⟩
  .refine((((((((g7.stp K.ok N fun x=>x).stp N.ok s5 c8).stp s5.ok s6 a7.symm).stp s6.ok z fun Ad=> ?_).stp z.ok O fun x=>x).stp O.ok s9 c9).stp s9.ok y a7.symm).stp y.ok Aw fun x=>x).stp Aw.ok a0 (by omega);rcases Ad with Ad | Ad | Ad
   .exact c4 Ad
   .exact c5 Ad
   .exact c7 Ad
  .simp only[zV,yR];omega
  .rw[a0.keep k (by omega) (by omega)];exact zRt Aw y.ok i8
  .refine((((((h0.mono s6 fun B hb Ad=> ?_).mono z fun B hb Ad=> ?_).mono O fun _ _ x=>x).mono s9 fun B hb Ad=> ?_).mono y fun B hb Ad=> ?_).mono Aw fun _ _ x=>x).mono a0 fun B hb Ad=> ?_
   all_goals rw[zRl.1 hb]at Ad
   .omega
   .have:=z6 _ Ad;omega
   .have:=Own.lt Y Ad;omega
   .omega
   .omega
  .refine((i4.mono y fun B hb Ad=> ?_).mono Aw fun _ _ x=>x).mono a0 fun B hb Ad=> ?_
   all_goals rw[zRl.1 hb]at Ad;omega
  .simp only[zV,yR];omega
  .intro h;have lO:=left.lt f.gO;rcases h with Ad | Ad | Ad | Ad | Ad | Ad | Ad
   .exact b0 Ad.symm
   .exact c6 Ad.symm
   .exact hO (Ad▸zD)
   .exact f.ne Ad
   .rcases a4 On Ad with x | x
    .exact hO (zw On x)
    .omega
   .rw[zRl.1 Ad]at lO;omega
   .rw[zRl.1 Ad]at lO;omega
  .have lP:=At.old B a;have hn:=At.pr B a;rcases hx with Ad | Ad | Ad | Ad | Ad | Ad | Ad
   .exact hn (Ad▸zA)
   .exact hn (Ad▸zS)
   .exact hn (Ad▸zD)
   .exact hn (Ad▸zN)
   .rcases a4 B Ad with x | x
    .exact hn (zw B x)
    .omega
   .rw[zRl.1 Ad]at lP;omega
   .rw[zRl.1 Ad]at lP;omega
  .rw[gZ (by omega),gZ (by omega)];exact At.s0
 .refine⟨⟨a0.ok,by omega,fun B a u=> ?_⟩,fun B hx=> ?_⟩
  .have a1:B≠k:=fun Ad=>u (Ad▸zA)
   have a2:B≠v:=fun Ad=>u (Ad▸zS)
   rw[a0.keep B (by omega) (by omega),Aw.keep B (by omega) (fun x=>x),y.keep B (by omega) a1,s9.keep B (by omega) (fun h=>u (zo B h)),O.keep B (by omega) (fun x=>x),z.keep B (by omega) (fun h=>by rcases h with Ad | Ad | Ad;exact u (Ad▸zD);exact u (Ad▸zN);exact u (zw B Ad)),s6.keep B (by omega) a1,s5.keep B (by omega) (fun h=>u (zt B h)),N.keep B (by omega) (fun x=>x),K.keep B (by omega) a2,P2.keep B a (fun x=>x)]
  .rcases hx with Ad | Ad | Ad | Ad | Ad | Ad | Ad
   .exact .inl (Ad▸zA)
   .exact .inl (Ad▸zS)
   .exact .inl (Ad▸zD)
   .exact .inl (Ad▸zN)
   .rcases a4 B Ad with x | x
    .exact .inl (zw B x)
    .exact .inr (by omega)
   .rw[zRl.1 Ad];exact .inr (by omega)
   .rw[zRl.1 Ad];exact .inr (by omega)
open Go.Bt
def cp (l:List Ptr):Nat:=(l.filter fun p=>decide (p.at_=1)).length
theorem zJe:cp []=0:=rfl
theorem cX (p:Ptr)(l:List Ptr):cp (p::l)=(if p.at_=1 then 1 else 0)+cp l:=by
 by_cases e:p.at_=1
 .simp[cp,e];omega
 .simp[cp,e]
theorem JT (a b:List Ptr):cp (a++b)=cp a+cp b:=by simp[cp,jH]
theorem zLb (p:Ptr)(l:List Ptr):dsk (p::l)=if p.at_=1 then dsk l else p::dsk l:=by
 by_cases e:p.at_=1<;>simp[dsk,e]
theorem hJ  :e∈dsk h↔e∈h/\e.at_≠1:=by simp[dsk]
theorem Ev.K_keep {E:Ev}(h:E.K e=some l)(hb:blkAt e.at_.toNat c=blkAt e.at_.toNat E.ws):Ev.K { E with ws:=c} e=some l:=by
 obtain⟨a,birth,kind,body,rfl,j,m,o,p,q,t,u,x⟩:=zRn.1 h;refine zRn.2 ⟨a,birth,kind,body,rfl,j,m,o,p,q, ?_,u,x⟩;have f:(fJ a birth (sealB kind birth body)).at_.toNat=a:=by simp[fJ]
 rw[f]at hb;exact hb.trans t
structure WOut (nb:Nat)(ws ws':Ws)(is is':Nat->Nat)(T T':List Ptr):Prop where
 pm: ∃news,T'.Perm (dsk T++news)/\news.Nodup/\news.length=cp T/\ ∀r∈news,2<=r.at_/\is r.at_.toNat=0/\is' r.at_.toNat≠0
 up: ∀i,is' i=is i\/(is i=0/\is' i=2)
 ct:cnt is' 0 nb+cp T=cnt is 0 nb
 bk: ∀a,is a≠0->blkAt a ws'=blkAt a ws
 ln:ws'.length=ws.length+cp T
theorem WOut.nil (nb:Nat)(ws:Ws)(is:Nat->Nat){T:List Ptr}(h: ∀r∈T,r.at_≠1):WOut nb ws ws is is T T:=by
 have e:dsk T=T:=List.filter_eq_self.2 fun p hp=>by simpa using h p hp
 have c:cp T=0:=by
  rw[cp,List.length_eq_zero_iff];exact List.filter_eq_nil_iff.2 fun p hp=>by simpa using h p hp
 exact⟨⟨[],by simp[e],by simp,by rw[c];rfl,by simp⟩,fun _=> .inl rfl,by omega,fun _ _=>rfl,by omega⟩
theorem WOut.nz {j:Ws}(nb:WOut k c j w r h N)(ws:w v≠0):r v≠0:=by
 rcases nb.up v with e | ⟨e,_⟩<;>omega
def WOut.used {m:Ws}(nb:WOut k c m w r h N)(is: ∀ws∈h,ws.at_≠1->w ws.at_.toNat≠0): ∀ws∈N,ws.at_≠1/\r ws.at_.toNat≠0:=fun ws hr=>by
 obtain⟨u,p,_,_,o⟩:=nb.pm;rcases qA.1 (p.mem_iff.1 hr)with e | e
 .obtain⟨q,j⟩:=hJ.1 e;exact⟨j,nb.nz (is ws q j)⟩
 .obtain⟨x,_,t⟩:=o ws e;exact⟨by omega,t⟩
theorem WOut.app {m o:Ws}{q:Nat->Nat}{U u:List Ptr}(ws:WOut k c m w r h N)(v:WOut k m o r q U u):WOut k c o w q (h++U) (N++u):=by
 obtain⟨K,T,O,l1,z⟩:=ws.pm;obtain⟨S,Y,Z,l2,C⟩:=v.pm;refine⟨⟨K++S, ?_, ?_,by rw[JT,zV,l1,l2],fun is hr=> ?_⟩,fun i=> ?_, ?_,fun a f=> ?_, ?_⟩
 .rw[zDF];refine(T.append Y).trans ?_;rw[List.perm_iff_count];intro a;simp only[List.count_append];omega
 .refine List.nodup_append.2 ⟨O,Z,fun a f b hb e=> ?_⟩;subst e;exact(z a f).2.2 (C a hb).2.1
 .rcases qA.1 hr with e | e
  .obtain⟨p,J,j⟩:=z is e;exact⟨p,J,v.nz j⟩
  .obtain⟨p,J,j⟩:=C is e;refine⟨p, ?_,j⟩;rcases ws.up is.at_.toNat with x | ⟨x,y⟩
   .omega
   .exact x
 .rcases ws.up i with a | ⟨a,b⟩<;>rcases v.up i with nb | ⟨nb,d⟩
  .exact .inl (by omega)
  .exact .inr ⟨by omega,d⟩
  .exact .inr ⟨a,by omega⟩
  .omega
 .have:=ws.ct;have:=v.ct;rw[JT];omega
 .rw[v.bk a (ws.nz f),ws.bk a f]
 .have:=ws.ln;have:=v.ln;rw[JT];omega
theorem WOut.put {m:Ws}{o:List Ptr}(ws:WOut k c m w r h o){s birth:Nat}{b:Str}(y:2<=v)(jn:v<k)(p:r v=0):WOut k c (m++[(v,b)]) w (VL r v 2) (pp s::h) (fJ v birth b::o):=by
 have t:WOut k m (m++[(v,b)]) r (VL r v 2) [pp s] [fJ v birth b]:=by
  obtain⟨k1,k2⟩:=(zAP (b:=2) p (by omega) (n:=k)).1 jn;refine⟨⟨[fJ v birth b],by simp[dsk,pp],by simp,by simp[cp,pp],fun is hr=> ?_⟩,fun i=> ?_, ?_,fun a u=> ?_,by simp[cp,pp]⟩
  .obtain rfl:is=fJ v birth b:=by simpa using hr
   have:(fJ v birth b).at_.toNat=v:=by simp[fJ]
   rw[this,fO];exact⟨by simp[fJ];omega,p,by omega⟩
  .by_cases e:i=v
   .subst e;exact .inr ⟨p,fO ..⟩
   .exact .inl (gZ e)
  .simp only[cp,pp,decide_true,List.filter_cons_of_pos,List.filter_nil,yR];omega
  .rw[J9,if_neg (fun e:v=a=>u (by rw[<-e];exact p))]
 have f:=ws.app t;refine⟨?_,f.up, ?_,f.bk, ?_⟩
 .obtain⟨q,a,b,nb,d⟩:=f.pm;refine⟨q, ?_,b, ?_,d⟩
  .have x:(fJ v birth ‹_› ::o).Perm (o++[fJ v birth ‹_›]):=(List.perm_append_singleton _ _).symm;refine x.trans (a.trans ?_);rw[zDF,zLb];simp[dsk,pp]
  .rw[nb,JT,cX];simp[pp,cp,Nat.add_comm]
 .have:=f.ct;rw[JT]at this;rw[cX];simp only[cX,zJe]at this;omega
 .have:=f.ln;rw[JT]at this;rw[cX];simp only[cX,zJe]at this;omega
def WN (h:Nat)(t:Bt.Tr h):Prop:=(∃lo hi,WF h lo hi t)\/WR h t
theorem WN.gen {h:Nat}{t:Bt.Tr h}(w:WN h t): ∃lo hi,Gen h lo hi t:=by
 rcases w with⟨lo,hi,w⟩ | w
 .exact⟨lo,hi,w.gen⟩
 .exact⟨none,none,w.gen⟩
theorem WN.sz {h:Nat}{t:Bt.Tr h}(w:WN h t):wK h t<=500:=by
 rcases w with⟨lo,hi,w⟩ | w
 .exact w.sz
 .exact w.sz
theorem WN.ne {t:Bt.Tr (k+1)}(w:WN (k+1) t):t.1≠[]:=by
 rcases w with⟨lo,hi,w⟩ | w
 .exact w.2.1
 .exact w.2.1
theorem WN.kid {t:Bt.Tr (k+1)}(w:WN (k+1) t){x:Bt.Tr k}(a:x∈t.2):WN k x:=by
 obtain⟨i,hi,rfl⟩:=jL a;rcases w with⟨lo,f,w⟩ | w
 .exact .inl ⟨_,_,w.1.2.2.at (zQ hi)⟩
 .exact .inl ⟨_,_,w.1.2.2.at (zQ hi)⟩
end Go.Eng.Sh
namespace Go.Eng
theorem rowSt (f:F.ok){i N cc:Nat}{A x:List AV}(h:F.h.get k=some (.cells (s++A) v q a))(j:s.length=i*q)(m:0<q)(C:q<=A.length)(p:x.length=q)(H:jP x=true)(hi:i<N):
  ∃H',(∀κ (z:Int),z=(i:Int)->dV q (.slice k 0 N cc) (.int κ z)=some (.ptr k (i*q)))/\stN q (.ptr k (i*q)) (.agg x) F=some (jQ,H')/\H'.h.get k=some (.cells (s++x++A.drop q) v q a)/\Stp (fun B=>B=k) F H'/\H'.next=F.next:=by
 have hb:Nat.blt i N=true:=by rw[qE];exact hi
 have o:i*q+q<=(s++A).length:=by rw[zV];omega
 refine⟨_,fun κ z t=> ?_,WJ h m p H o, ?_,(zRo f).put (f.lt h) _ (.inr rfl),rfl⟩
 .subst t;simp only[dV,kL κ (show(0:Int)<=(i:Int)by omega),yC,hb,zP,kF,yZ]
 .rw[zRk,if_pos rfl];have u:(s++A).take (i*q)=s:=jA j;have y:(s++A).drop (i*q+q)=A.drop q:=by rw[<-List.drop_drop,yX j]
  simp only[jU,u,y]
end Go.Eng
namespace Go.Eng.Sh
open Go.Nd (Str)
open Go.Bk Go.Bt
theorem AdT.keep {Z a:Nat->Prop}{H H':AH}(h:AdT Z H a H'){A:Nat}(f:A<H.next)(j: ¬Z A):H'.h.get A=H.h.get A/\ ¬a A/\A<H'.next:=
 ⟨h.1.keep A f j,fun x=>by rcases h.2 A x with y | y;exact j y;omega,qG f h.1.next⟩
theorem Wr.box (Aw:Wr W i k v q C G .nP J P Q w e H t R p A M)(At:Stp (fun B=>B=V) i F)(K: ¬A V)(hp: ¬M V)(N:i.h.get V=some (.cells s g u a)):Wr W F k v q C G .nP J P Q w e H t R p A M:=by
 obtain⟨j,Ad,x,y,O,S,nt,T,Y,z,E,ot,oo,hn,txg,hO⟩:=Aw.gw;have m:=Aw.ti.ok;have nz: ∀B,A B-> ¬B=V:=fun B h g=>K (g▸h)
 have nO: ¬j=V:=fun g=>by have:=z.gO;rw[g,N]at this;cases this
 have As:DkI F G W.nb W.ws j Ad x y:=z.stp m At (nz _ ((txg _).2 (.inr (.inr (.inl rfl))))) nO (nz _ ((txg _).2 (.inr (.inr (.inr (.inl rfl)))))) fun B f=>nz _ ((txg _).2 (.inr (.inr (.inr (.inr (.inl f))))))
 have H':=Aw.ti.wr At (fun B f=>fun g=>hp (g▸(Aw.pa B).2 f)) As;exact⟨H',Aw.sp.stp m At (nz _ ((txg _).2 (.inr (.inl rfl)))),Aw.few,⟨j,Ad,x,y,O,S,nt,T,Y,As,by rw[At.keep _ (m.lt E) (nz _ ((txg _).2 (.inl rfl)))];exact E,ot.mono At fun B f=>nz _ ((txg _).2 (.inr (.inr (.inr (.inr (.inr (.inl f))))))),oo.mono At fun B f=>nz _ ((txg _).2 (.inr (.inr (.inr (.inr (.inr (.inr f))))))),hn,txg,hO⟩,Aw.pr,Aw.pa,Aw.bd,Aw.nb,Aw.s0,Aw.lf⟩
theorem Wr.dec (Aw:Wr W i k v q C G .nP J (P+1) Q w e H t R p A M):
  ∃H',Eng.ld1 (.ptr k 3) i=some (.int .i64 (P+1:Nat))/\stN 1 (.ptr k 3) (.int .i64 P) i=some (jQ,H')/\Eng.ld1 (.ptr k 3) H'=some (.int .i64 P)/\Eng.ld1 (.ptr k 0) H'=some (.ptr q 0)/\Wr W H' k v q C G .nP J P Q w e H t R p A M/\AdT A i A H'/\H'.next=i.next:=by
 obtain⟨E,K,N,O,tv,ov,nt,tl,ol,m,a,S,T,hn,Y,hO⟩:=Aw.gw;have Ad:=Aw.ti.ok;obtain⟨H1,e1,At,j,n1⟩:=xM Ad a (o:=3) (x:= .int .i64 P) rfl (by simp);have u:A k:=(Y _).2 (.inl rfl);have a0:v≠k:=fun As=>by
  obtain⟨c,g,l8,_⟩:=Aw.sp;rw[As,a]at g;simp only[zB,AObj.cells.injEq]at g;rw[<-g.1]at l8;simp at l8
 have z:DkI H1 G W.nb W.ws E K N O:=m.stp Ad j (fun As=>kC a m.gD (by simp) As.symm) (fun As=>hO (As▸u)) (fun As=>kC a m.gN (by simp) As.symm) fun B f As=>kC a (m.ow.get f) (by simp) As.symm
 refine⟨H1,by rw[jM a];rfl,e1,by rw[jM At];rfl,by rw[jM At];rfl,⟨Aw.ti.wr j (fun B f As=>Aw.pr B ((Aw.pa B).2 f) (As▸u)) z,Aw.sp.stp Ad j a0,Aw.few,⟨E,K,N,O,tv,ov,nt,tl,ol,z,At,S.mono j fun B f As=>kC a (zRx S f) (by simp) As.symm,T.mono j fun B f As=>kC a (zRx T f) (by simp) As.symm,hn,Y,hO⟩,Aw.pr,Aw.pa,Aw.bd,Aw.nb,Aw.s0,by have:=Aw.lf;omega⟩,⟨j.mono fun B _ As=>As▸u,fun _ h=> .inl h⟩,n1⟩
def zLV (h:Nat):Prop:= ∀ {E:Ev} {H:AH} {Aw As At M Ad txg left la:Nat} {is:Nat->Nat} {root:Ptr} {es:List (AV×AV)} {q:PN} {j:Nat} {u:AV} {Z P:Nat->Prop} (k n:Nat) {p:Ptr} {nd:Nd.Node} {t:Bt.Tr h} {S:List Ptr},200000000+h<=k->200000000<=n->
  Wr E H Aw As At M Ad .nP txg left la is root es q j u Z P->Qf E q [] p=some nd->kU (Qf E q []) h nd t S->WN h t->(∀r∈p::S,r.at_≠1->is r.at_.toNat≠0)->cp (p::S)<=left->cp (p::S)<=cnt is 0 E.nb->txg<=2147483647->
  ∃H' a x la' m f o y left',f96 (dy k) n [.ptr Aw 0, .agg (jS p)] H=some (.tuple [.agg (jS f), .int .i64 (0:Nat)],H')/\Wr { E with ws:=a} H' Aw As At M Ad .nP txg left' la' m root es q j u x P/\AdT Z H x H'/\WOut E.nb E.ws a is m (p::S) (f::y)/\left'+cp (p::S)=left/\Ev.K { E with ws:=a} f=some o/\kU (Ev.K { E with ws:=a}) h o t y
theorem zDR (h:Qf W t [] e=some l)(hb:e.at_≠1->blkAt e.at_.toNat c=blkAt e.at_.toNat W.ws):Qf { W with ws:=c} t [] e=some l:=by
 obtain⟨s,rfl,f⟩ | ⟨f,j⟩:=uK h
 .rw[zAZ]at h⊢;exact h
 .rw[JD f];exact Ev.K_keep j (hb fun E=>by have:=(bU j).2;omega)
theorem wkids (ih:zLV k)(Aw n:Nat)(hk:200000000+k<=Aw)(hn:200000000<=n){cc:Nat}{x4 x6:AV}(ht:P<=2147483647)(hN:R=h.length)(f6:R<=100000):
  ∀(ps:List Ptr) (ts:List (Bt.Tr k)) (S a:List Ptr) (E:Ev) (Ad:AH) (Z:Nat->Prop) (left la:Nat) (is:Nat->Nat) (j:Nat) (As:List AV),Wr E Ad v q C G J .nP P left la is e H t V p Z A->xT (Qf E t []) (kU (Qf E t []) k) ps ts S->(∀x∈ts,WN k x)->(∀r∈S,r.at_≠1->is r.at_.toNat≠0)->cp S<=left->cp S<=cnt is 0 E.nb->ps.length<j->
   gY Ad I h->(∀B,Blk I B->A B)->h.drop a.length=ps->a.length+ps.length=h.length->Ad.h.get Q=some (.cells (a.flatMap jS++As) 42 3 false)->As.length=ps.length*3-> ¬Z Q-> ¬A Q->
   ∃H' a0 Z' la' b5 left' b6 S',kJ j (zFZ (dy (Aw+1)) n) [.ptr v 0,x4,x6, .slice Q 0 R cc,I, .int .i64 R, .int .i64 a.length] Ad=some (.exit 0 [.ptr v 0,x4,x6, .slice Q 0 R cc],H')/\Wr { E with ws:=a0} H' v q C G J .nP P left' la' b5 e H t V p Z' A/\AdT (fun B=>Z B\/B=Q) Ad (fun B=>Z' B\/B=Q) H'/\ ¬Z' Q/\WOut E.nb E.ws a0 is b5 S S'/\left'+cp S=left/\xT (Ev.K { E with ws:=a0}) (kU (Ev.K { E with ws:=a0}) k) b6 ts S'/\H'.h.get Q=some (.cells ((a++b6).flatMap jS) 42 3 false):=by
 intro ps
 induction ps with
 | nil=>
  intro ts S a E Ad Z left la is j As w rl hw hu b7 b8 a4 a9 a6 hd hl g8 a7 b0 a8;obtain⟨j,rfl⟩: ∃m,j=m+1:=⟨j - 1,by simp at a4;omega⟩
  cases ts with
  | cons _ _=>exact rl.elim
  | nil=>
   have M:S=[]:=rl;subst M;have hi: ¬(a.length:Int)< (R:Int):=by simp only[yG]at hl;omega
   have d2:As=[]:=zW (by simpa using a7);subst d2;refine⟨Ad,E.ws,Z,la,is,left,[],[],jW (by simp(disch:=omega) only[zFZ,eZ,hi]),w,AdT.prs (zRo w.ti.ok),b0,WOut.nil _ _ _ (by simp),by rw[zJe];omega,rfl,by simpa using g8⟩
 | cons f ps ihp=>
  intro ts S a E Ad Z left la is j As w rl hw hu b7 b8 a4 a9 a6 hd hl g8 a7 b0 a8;obtain⟨j,rfl⟩: ∃m,j=m+1:=⟨j - 1,by simp at a4;omega⟩
  cases ts with
  | nil=>exact rl.elim
  | cons txg ts=>
   obtain⟨nd,S1,At,hq,hr,d3,rfl⟩:=rl;have b9:a.length<h.length:=by simp at hl;omega
   have d4:h[a.length]=f:=by
    have:=List.getElem_cons_drop b9;rw[hd]at this;simp only[y8]at this;exact this.1
   obtain⟨pk,q1,q2⟩:=a9.at b9;rw[d4]at q2;have b2:=w.ti.ok;have l8:=b2.lt g8;obtain⟨H1,c0,b1,p1,g1,m1,n1⟩:=box b2 (.cells [.int .i64 (0:Nat), .int .i64 (0:Nat), .int .u64 (0:Nat)] 42 1 false);obtain⟨H2,e2,g2,s2,n2⟩:=jV p1.ok g1 (l':=jS f) rfl rfl;have d5:stN 3 (.ptr c0 0) (.agg (jS f)) H1=some (jQ,H2):=e2;have O:Prs Ad H2:=p1.fresh s2 fun B y=>by omega
   have r2:ldN 3 (.ptr c0 0) H2=some (.agg (jS f)):=xB g2 rfl;have T:f::(S1++At)=(f::S1)++At:=rfl;rw[T,JT]at b7 b8;obtain⟨H3,z,Z3,d6,c1,u,d7,b3,c8,e3,w3,a3,o3,f7,d8,d9⟩:=ih Aw Aw hk (by omega) (w.prs O) hq hr (hw txg (zJ ..)) (fun r hr=>hu r (by rw[T];exact qU _ hr)) (by omega) (by omega) ht;have N2:=O.next;have N3:=a3.1.next
   have c2:=zRt O b2 g8;obtain⟨k8,z8,f8⟩:=a3.keep (O.ok.lt c2) b0;have c3:=k8.trans c2;obtain⟨H4,e0,e4,g4,s4,n4⟩:=rowSt (cc:=cc) w3.ti.ok c3 (i:=a.length) (N:=R) (x:=jS u) (cQ a) (by omega) (by simp at a7;omega) rfl rfl (by omega);have w4:=w3.box s4 z8 a8 c3;have c4:(a++[u]).length=a.length+1:=by simp
   have c5: ∀r,r∈At-> ∀nd,Qf E t [] r=some nd->Qf { E with ws:=z} t [] r=some nd:=fun r hr nd k=>zDR k fun Y=>o3.bk _ (hu r (by rw[T];exact yQ _ hr) Y)
   have e6:xT (Qf { E with ws:=z} t []) (kU (Qf { E with ws:=z} t []) k) ps ts At:=d3.mono c5 fun nd txg S' hS r=>r.mono fun f hp nd hh=>c5 f (hS f hp) nd hh
   have d0:gY H4 I h:=by
    refine(Rw.stp (Rw.stp (a9.prs O) a3.1 fun B y=> ?_) s4 fun B y M=> ?_)
    .exact w.pr B (a6 B y)
    .exact a8 (M▸a6 B y)
   obtain⟨H5,c6,Z5,e7,e8,c9,e9,S5,e5,w5,a5,z5,o5,f9,f1,g5⟩:=ihp ts At (a++[u]) { E with ws:=z} H4 Z3 c8 d6 c1 j (As.drop 3) w4 e6 (fun x hx=>hw x (zC _ hx)) (fun r hr Y=>o3.nz (hu r (by rw[T];exact yQ _ hr) Y)) (by omega) (by have:=o3.ct;show cp At<=cnt c1 0 E.nb;omega) (by simp at a4;omega) d0 a6 (by rw[c4,<-List.drop_drop,hd];rfl) (by simp at hl⊢;omega) (by rw[g4];simp) (by simp at a7⊢;omega) z8 a8;have o:=o3.app o5;have f2:=o3.used (fun r hr Y=>hu r (by rw[T];exact qU _ hr) Y);have c7: ∀r,r∈u::b3-> ∀nd,Ev.K { E with ws:=z} r=some nd->Ev.K { E with ws:=c6} r=some nd:=fun r hr nd k=>Ev.K_keep (E:= { E with ws:=z}) k (o5.bk _ (f2 r hr).2)
   refine⟨H5,c6,Z5,e7,e8,c9,u::e9,u::b3++S5, ?_,w5, ?_,z5,o,by rw[T,JT];omega,⟨d7,b3,S5,c7 u (zJ ..) _ d8,d9.mono fun r hr nd k=>c7 r (zC _ hr) nd k,f1,rfl⟩,by rw[g5];simp⟩
   .have hi:(a.length:Int)< (R:Int):=by omega
    have f3: ¬(((0:Nat):Int)≠((0:Nat):Int)):=by omega
    have hi1:(a.length:Int)+((1:Nat):Int)=(((a++[u]).length:Nat):Int):=by rw[c4];omega
    have wi:IntKind.wrap .i64 (((a++[u]).length:Nat):Int)=(((a++[u]).length:Nat):Int):=wrap_i64 (by omega) (by omega);have d1:=e0 .i64 _ rfl;have f4:=q1 .i64 _ rfl;have f5:(dy (Aw+1)).fn 96 [.ptr v 0, .agg (jS f)] H2=some (.tuple [.agg (jS u), .int .i64 (0:Nat)],H3):=e3;refine(kD ?_).trans e5;simp(maxSteps:=999999)(disch:=omega) only[zFZ,eZ,hi,f4,q2,b1,d5,r2,f5,jN,nth,d1,e4,f3,hi1,wi]
   .have a1:AdT (fun B=>Z B\/B=Q) Ad (fun B=>Z3 B\/B=Q) H3:=by
     refine⟨(O.stp).trans (a3.1.mono fun B _ k=> .inl k),fun B y=> ?_⟩;rcases y with y | y
     .rcases a3.2 B y with x | x
      .exact .inl (.inl x)
      .exact .inr (by omega)
     .exact .inl (.inr y)
    have a2:AdT (fun B=>Z3 B\/B=Q) H3 (fun B=>Z3 B\/B=Q) H4:=⟨s4.mono fun B _ k=> .inr k,fun B k=> .inl k⟩;exact(a1.trans a2).trans a5
theorem zEf (z:List AV): ∀n,(rep n z).length=n*z.length
 | 0=>by simp[rep]
 | n+1=>by rw[rep,zV,zEf z n,jI];omega
theorem zO2 (e sz bytes:Nat)(z:List AV)(a:k<=1000000)(hb:bytes<=1000):zHV e sz bytes z (.int .i64 k) (.int .i64 k)=some (.cells (rep k z) e sz false,fun A=> .slice A 0 k (2*k)):=by
 have f:Nat.ble k k=true:=by rw[qW];omega
 have h:Nat.ble (k*bytes) 140737488355328=true:=by
  rw[qW]
  calc k*bytes<=1000000*1000:=Nat.mul_le_mul a hb
   _<=140737488355328:=by decide
 have j:Nat.blt k 9223372036854775808=true:=by rw[qE];omega
 show zHV e sz bytes z (.int .i64 (.ofNat k)) (.int .i64 (.ofNat k))=_;simp only[zHV,f,h,j,qP,zP]
def zKb (s:Str):U7 s<18446744073709551616:=zAd _ _ (by omega)
def AdT.prsR (h:AdT A i M F)(s:Prs F m):AdT A i M m:=h.trans (AdT.prs s)
theorem AdT.boxR (h:AdT A i M F)(s:Stp (fun B=>B=k) F m)(p:i.next<=k):AdT A i M m:=by
 have N:=h.1.next;have q:=s.next
 refine⟨⟨s.ok,by omega,fun B Z o=> ?_⟩,h.2⟩;rw[s.keep B (by omega) (by omega),h.1.keep B Z o]
theorem AdT.dropR {j:Nat->Prop}(h:AdT A i M F)(Z:AdT (fun B=>M B\/B=k) F (fun B=>j B\/B=k) m)(q:i.next<=k):AdT A i j m:=by
 have N:=h.1.next;have t:=Z.1.next
 refine⟨⟨Z.1.ok,by omega,fun B a p=> ?_⟩,fun B a=> ?_⟩
 .rw[Z.1.keep B (by omega) fun x=> ?_,h.1.keep B a p];rcases x with x | x
  .rcases h.2 B x with y | y
   .exact p y
   .omega
  .omega
 .rcases Z.2 B (.inl a)with(x | x) | x
  .exact h.2 B x
  .exact .inr (by omega)
  .exact .inr (by omega)
theorem zPB (E n:Nat)(hk:200000000<=E)(hn:200000000<=n){left:Bt.Tr k}
  (Ad:Wr W i v q C G J .nP P (Q+1) R w e H t g p A M) (hq:jX V t=some l) (hr:kU (Qf W t []) k l left h) (hw:WN k left) (n0:cp h+1<=cnt w 0 W.nb) (hu: ∀r∈h,r.at_≠1->w r.at_.toNat≠0) (ht:P<=2147483647)
  (i0: ∀(i:AH) (kv x4 x6:AV) (la:Nat) (l2:List AV),Wr W i v q C G J .nP P Q R w e H t g p A M->gY i kv l.kids->(∀B,Blk kv B->M B)->i.h.get la=some (.cells l2 42 3 false)->l2.length=l.kids.length*3-> ¬A la-> ¬M la->
   ∃H' At Y la' a0 left' a9 y,kJ n (zFZ (dy E) n) [.ptr v 0,x4,x6, .slice la 0 l.kids.length (2*l.kids.length),kv, .int .i64 l.kids.length, .int .i64 (0:Nat)] i=some (.exit 0 [.ptr v 0,x4,x6, .slice la 0 l.kids.length (2*l.kids.length)],H')/\Wr { W with ws:=At} H' v q C G J .nP P left' la' a0 e H t g p Y M/\AdT (fun B=>A B\/B=la) i (fun B=>Y B\/B=la) H'/\ ¬Y la/\WOut W.nb W.ws At w a0 h y/\left'+cp h=Q/\a9.length=l.kids.length/\kU (Ev.K { W with ws:=At}) k { l with kids:=a9} left y/\H'.h.get la=some (.cells (a9.flatMap jS) 42 3 false)):
  ∃H' At Y la' a0 p' f y left',f96 (dy E) n [.ptr v 0, .agg (jS (pp V))] i=some (.tuple [.agg (jS p'), .int .i64 (0:Nat)],H')/\Wr { W with ws:=At} H' v q C G J .nP P left' la' a0 e H t g p Y M/\AdT A i Y H'/\WOut W.nb W.ws At w a0 (pp V::h) (p'::y)/\left'+cp (pp V::h)=Q+1/\Ev.K { W with ws:=At} p'=some f/\kU (Ev.K { W with ws:=At}) k f left y:=by
 obtain⟨k2,rfl⟩: ∃k2,E=k2+2:=⟨E - 2,by omega⟩;have j6:=Ad.ti.ok;have zl:=Ad.lt;have hP:=Ad.old;obtain⟨H1,A3,b1,p1,g1,m1,n1⟩:=box j6 (.cells (jS (pp V)) 42 1 false);obtain⟨H2,A4,b2,p2,g2,m2,n2⟩:=box p1.ok (.cells [.int .i64 (0:Nat), .int .i64 (0:Nat), .int .u64 (0:Nat)] 42 1 false);have P2:=p1.trans p2;have N1:=p1.next;have N2:=p2.next
 have b0:=zRt p2 p1.ok g1;obtain⟨H3,d1,d2,d3,d4,w3,a3,n3⟩:=(Ad.prs P2).dec;have n5:=w3.lt;obtain⟨k13,n8,o0⟩:=a3.keep (p2.ok.lt b0) (fun x=>by have:=zl _ x;omega);have j7:=k13.trans b0;obtain⟨k23,o1,o2⟩:=a3.keep (p2.ok.lt g2) (fun x=>by have:=zl _ x;omega);have j8:=k23.trans g2;have r2:Eng.ld1 (.ptr A3 0) H2=some (.int .i64 (1:Nat)):=by rw[jM b0];rfl
 have r3:ldN 3 (.ptr A3 0) H3=some (.agg (jS (pp V))):=xB j7 rfl;obtain⟨H4,As,b4,p4,g4,m4,n4⟩:=box w3.ti.ok (.cells [.bool false, .nS, .nS, .nS] 119 1 false);have N4:=p4.next
 obtain⟨Aw,H5,e5,p5,d6,kx,j9⟩:=zBB (dy (k2+2)) n (w3.ti.prs p4) hq;have N5:=p5.next
 obtain⟨is,rfl,ll,lc⟩:=d6.cells;have k0:=zRt p5 p4.ok g4;obtain⟨H6,e6,g6,s6,n6⟩:=jV p5.ok k0 (l':=is) ll lc;have d7:stN 4 (.ptr As 0) (.agg is) H5=some (jQ,H6):=e6;have p6:Prs H3 H6:=(p4.trans p5).fresh s6 fun B m=>by omega
 have N6:=p6.next
 obtain⟨ks,vs,ps,he,h1,h2,h3⟩:=id d6;simp only[AV.agg.injEq]at he;subst he;have f3:Eng.ld1 (.ptr As 3) H6=some ps:=by rw[jM g6];rfl
 have d8:gY H5 ps l.kids:=h3.row;have d9:lnSl ps=some (.int .i64 l.kids.length):=d8.lnSl;have k1:wK k left<=500:=hw.sz;have o3:small l:=vI (by rw[hr.size];omega);have o4:l.kids.length<=100:=by
  have:Nd.size l=wK k left:=hr.size;simp only[Nd.size]at this;omega
 obtain⟨z3,e0⟩: ∃z3,z3=rep l.kids.length [AV.int .i64 (0:Nat), .int .i64 (0:Nat), .int .u64 (0:Nat)]:=⟨_,rfl⟩;have i3:z3.length=l.kids.length*3:=by rw[e0];exact zEf _ _
 have e1:zHV 42 3 24 [.int .i64 (0:Nat), .int .i64 (0:Nat), .int .u64 (0:Nat)] (.int .i64 l.kids.length) (.int .i64 l.kids.length)=some (.cells z3 42 3 false,fun s=> .slice s 0 l.kids.length (2*l.kids.length)):=by
  rw[e0];exact zO2 _ _ _ _ (by omega) (by omega)
 obtain⟨H7,la,b7,p7,g7,m7,n7⟩:=box s6.ok (.cells z3 42 3 false);have N7:=p7.next
 have P7:Prs H3 H7:=p6.trans p7;have w7:=w3.prs P7;have b3:=zRt p7 s6.ok g6;have e2:Eng.ld1 (.ptr As 3) H7=some ps:=by rw[jM b3];rfl
 have bl: ∀B,xS (.agg [.bool l.leaf,ks,vs,ps]) B->M B:=fun B m=>(Ad.pa B).2 (.inr (.inr (.inr ⟨_,j9,m⟩)))
 have e3:Stp (fun B=>B=As) H5 H7:=s6.trans p7.stp;have b5: ∀B,M B-> ¬B=As:=fun B m=>by have:=hP B m;omega
 have i4:gY H7 ps l.kids:=Rw.stp d8 e3 fun B m=>b5 B (bl B (wO.2 (.inr (.inr m))))
 have z8: ¬A la:=fun x=>by have:=zl _ x;omega
 have q8: ¬M la:=fun x=>by have:=hP _ x;omega
 obtain⟨H8,T,Z8,o5,k3,i1,qs,y,e8,w8,a8,o6,o8,o7,k4,z,g8⟩:=i0 H7 ps (.ptr A4 0) (.ptr As 0) la z3 w7 i4 (fun B m=>bl B (wO.2 (.inr (.inr m)))) g7 i3 z8 q8;have k5:AdT A i A H7:=((AdT.prs P2).trans a3).prsR P7;have k6:AdT A i Z8 H8:=k5.dropR a8 (by omega);have N8:=a8.1.next
 have zs: ∀B,i.next<=B-> ¬A B:=fun B m x=>by have:=zl B x;omega
 obtain⟨k68,k7,o9⟩:=a8.keep (p7.ok.lt b3) (fun x=>by rcases x with x | x;exact zs _ (by omega) x;omega);have e4:=k68.trans b3;have e7:=zRt P7 w3.ti.ok j8;obtain⟨k48,k8,p0⟩:=a8.keep (p7.ok.lt e7) (fun x=>by rcases x with x | x;exact zs _ (by omega) x;omega);have f1:=k48.trans e7;obtain⟨H9,e9,g9,s9,n9⟩:=xM w8.ti.ok e4 (o:=3) (x:= .slice la 0 l.kids.length (2*l.kids.length)) rfl (by simp);have q6: ¬M As:=fun x=>by have:=hP _ x;omega
 have w9:=w8.box s9 (fun x=>k7 (.inl x)) q6 e4;have k9:=k6.boxR s9 (by omega);have N9:=s9.next
 have f2:H9.h.get la=some (.cells (qs.flatMap jS) 42 3 false):=by rw[s9.keep _ (w8.ti.ok.lt g8) (by omega)];exact g8
 obtain⟨f,O⟩: ∃f,f= { l with kids:=qs} :=⟨_,rfl⟩;have c6: ∀ {x:AV} {kk:Nat} {ll:List AV} {nn:Nat},Rw kk H5 x nn ll->(∀B,Blk x B->M B)->Rw kk H9 x nn ll:=fun l0 hb=>
  Rw.stp (Rw.stp (Rw.stp l0 e3 fun B m=>b5 B (hb B m)) a8.1 fun B m x=>by
   rcases x with x | x
   .exact Ad.pr B (hb B m) x
   .exact q8 (x▸hb B m)) s9 fun B m=>b5 B (hb B m)
 have l1:dD H9 (.agg [.bool l.leaf,ks,vs, .slice la 0 l.kids.length (2*l.kids.length)]) f:=by
  refine⟨ks,vs,_,by rw[O], ?_, ?_, ?_⟩
  .rw[O];exact c6 h1.row fun B m=>bl B (wO.2 (.inl m))
  .rw[O];exact c6 h2.row fun B m=>bl B (wO.2 (.inr (.inl m)))
  .rw[O];refine⟨cQ qs, .inr (.inr ⟨la,0,2*l.kids.length,_,_,_,_,by simp only[k4],f2,w9.ti.ok.lt f2, ?_, ?_⟩)⟩
   .simp only[cQ];omega
   .simp only[yL];rw[zY (by rw[cQ];omega)]
 rw[<-O]at z;obtain⟨lo,hi,i5⟩:=hw.gen;have f5:=o8.used hu;have i6: ∀r∈y,Nd.kidOk r=true:=fun r u=>by
  obtain⟨x,hx⟩:=kU.here z r u;exact(bU hx).1
 have l3:0<k->f.keys≠[]:=fun h0=>by
  cases k with
  | zero=>omega
  | succ k=>rw[z.2.1];exact hw.ne
 have b6:Nd.shaped ltS f=true:=z.shaped i5 l3 i6;have a7:Nd.size f<=500:=by rw[z.size];exact k1
 have i7:small f:=vI (by omega);have c7: ∀r∈f.kids,r∈y:=fun r u=>by
  cases k with
  | zero=>obtain⟨txg,_⟩:=z;rw[txg]at u;simp[Nd.leafOf]at u
  | succ k=>exact z.2.2.2.kids r u
 have c8: ∀r∈f.kids,Nd.sumOk r:=fun r u=>by
  obtain⟨x,hx⟩:=kU.here z r (c7 r u);obtain⟨a,birth,kind,body,rfl,_⟩:=zRn.1 hx;exact⟨by simp[fJ],by have:=zKb (sealB kind birth body);simp only[fJ];omega⟩
 obtain⟨l4,b8,a4⟩:=zIX (k2+1) n (by omega) hn w9.ti.ok l1 i7 c8;have i2:zMV f=(Nd.encN f,0):=by simp only[zMV,b6,if_true,if_pos a7]
 rw[i2]at b8;have a5:(Nd.encN f).length<=500:=by rw[Nd.encN_length b6];exact a7
 obtain⟨kind,N⟩: ∃kind:UInt8,kind=if f.leaf then 1 else 2:=⟨_,rfl⟩
 have l5:=w9.prs a4;obtain⟨p3,a1,b9⟩:=zH9 (dy (k2+2)) n (by omega) a4.ok kind ht a5;obtain⟨B,m⟩: ∃B,B=sealB kind P (Nd.encN f):=⟨_,rfl⟩;have c0:=sealB_len (kind:=kind) (birth:=P) a5;rw[<-m]at a1 c0;obtain⟨Zb,f6⟩: ∃Zb:Str,Zb=List.replicate 512 0:=⟨_,rfl⟩;have l6:Zb.length=512:=by rw[f6];simp
 have f7:rep 512 [AV.int .u8 (0:Nat)]=jO Zb:=by rw[ZK,f6]
 obtain⟨p8,p9,f8,c1,i8,q2,q3⟩:=box b9.ok (.cells (jO Zb) 55 1 false);obtain⟨f9,g0,i9,g3⟩:=stR c1.ok i8 l6 c0;have q5:=a4.next;have q7:=b9.next;have q9:=c1.next;have r4:=g3.next
 have c2:Prs H9 f9:=((a4.trans b9).trans c1).fresh g3 fun B m=>by omega
 have g5:=ldR i9 c0;have h4:=w9.prs c2;obtain⟨l7,j,h5,c3,j2,jn,j0,c4,h6⟩:=zN8 k2 n (by omega) (by omega) h4 kind ht a5 (by have:=o8.ct;show 0<cnt k3 0 W.nb;omega);rw[<-m]at c3 c4;have c9:f9.h.get A4=_:=zRt c2 w9.ti.ok ((s9.keep A4 (w8.ti.ok.lt f1) (by omega)).trans f1);obtain⟨j1,j3,m9⟩:=h6.keep (h4.ti.ok.lt c9) (fun x=>k8 (.inl x));have d0:=j1.trans c9;obtain⟨a6,l8,l9,h7,r5⟩:=jV c4.ti.ok d0 (l':=jS (fJ j P B)) rfl rfl;have d5:stN 3 (.ptr A4 0) (.agg (jS (fJ j P B))) l7=some (jQ,a6):=l8;have q4: ¬M A4:=fun x=>by have:=hP _ x;omega
 have m0:=c4.box h7 j3 q4 d0;have h8:ldN 3 (.ptr A4 0) a6=some (.agg (jS (fJ j P B))):=xB l9 rfl;have aF:AdT A i h5 a6:=((k9.prsR c2).trans h6).boxR h7 (by omega);have oF:=o8.put (s:=V) (birth:=P) (b:=B) j2 jn j0;have m3: ∀r∈y,blkAt r.at_.toNat (T++[(j,B)])=blkAt r.at_.toNat T:=fun r u=>by
  rw[J9,if_neg fun txg:j=_=>(f5 r u).2 (by rw[<-txg];exact j0)]
 have m5:kU (Ev.K { W with ws:=T++[(j,B)] }) k f left y:=z.mono fun r u r6 h2=>Ev.K_keep (E:= { W with ws:=T}) h2 (m3 r u)
 have m6:decide (kind=1)=f.leaf:=by rw[N];cases f.leaf<;>rfl
 have j4:Nd.decN ltS (decide (kind=1)) (Nd.encN f)=some f:=by
  rw[m6];exact Nd.decN_encN (by simp only[Nd.may,b6,Bool.true_and,zR];exact a7) c8
 have m8:Ev.K { W with ws:=T++[(j,B)] } (fJ j P B)=some f:=by
  refine zRn.2 ⟨j,P,kind,Nd.encN f,by rw[m],j2,jn,⟨by have:=Ad.nb.2.1;have:j<W.nb:=jn;omega,fun r u=>(f5 r (c7 r u)).1⟩,ht,a5, ?_,by rw[N];cases f.leaf<;>simp,j4⟩;show blkAt j (T++[(j,B)])=_;rw[J9,if_pos rfl,m]
 refine⟨a6,_,h5,j,_,fJ j P B,f,y,i1, ?_,m0,aF,oF,by rw[cX];simp only[pp,if_true];omega,m8,m5⟩;obtain⟨On,Nw,wv,ds,tv,ov,nt,r7,ol,dk,gw,_⟩:=l5.gw;have fw:Eng.ld1 (.ptr v 2) l4=some (.int .i64 P):=by rw[jM gw];rfl
 have f0:Eng.ld1 (.ptr As 0) H9=some (.bool l.leaf):=by rw[jM g9];rfl
 have f4:ldN 4 (.ptr As 0) H9=some (.agg [.bool l.leaf,ks,vs, .slice la 0 l.kids.length (2*l.kids.length)]):=xB g9 rfl;have j5:f.leaf=l.leaf:=by rw[O]
 rw[j5]at N;have h9: ¬(((0:Nat):Int)≠((0:Nat):Int)):=by omega
 have t11: ¬(((1:Nat):Int)≠((1:Nat):Int)):=by omega
 have wi:((Q+1:Nat):Int) - ((1:Nat):Int)=(Q:Int):=by omega
 have tl: ¬(Q:Int)< ((0:Nat):Int):=by omega
 have r8:=Ad.lf;have wl:IntKind.wrap .i64 (Q:Int)=(Q:Int):=wrap_i64 (by omega) (by omega)
 cases hc:l.leaf with
 | true=>
  rw[hc]at N f0;have c5:(kind.toNat:Int)=((1:Nat):Int):=by rw[N];rfl
  rw[c5]at a1;simp(maxSteps:=999999)(disch:=omega) only[f96,eZ,b1,b2,r2,t11,d1,wi,wl,d2,d3,tl,d4,r3,b4,e5,jN,nth,d7,h9,f3,d9,e1,b7,e2,e8,zOq,e9,f0,zOp,f4,b8,fw,a1,f7,f8,g0,g5,c3,d5,h8]
 | false=>
  rw[hc]at N f0;have c5:(kind.toNat:Int)=((2:Nat):Int):=by rw[N];rfl
  rw[c5]at a1;simp(maxSteps:=999999)(disch:=omega) only[f96,eZ,b1,b2,r2,t11,d1,wi,wl,d2,d3,tl,d4,r3,b4,e5,jN,nth,d7,h9,f3,d9,e1,b7,e2,e8,zOq,e9,f0,zOp,f4,b8,fw,a1,f7,f8,g0,g5,c3,d5,h8]
theorem kU.disk {E:Ev}{q:PN} : ∀ {h:Nat} {nd:Nd.Node} {t:Bt.Tr h} {S:List Ptr},kU (Qf E q []) h nd t S->(∀r∈nd.kids,r.at_≠1)->kU E.K h nd t S/\ ∀r∈S,r.at_≠1
 | 0,nd,t,S,w,_=>⟨w,by rw[w.2];simp⟩
 | h+1,nd,t,S,⟨a,b,c,w⟩,hk=>by
  have key: ∀(ps:List Ptr) (ts:List (Bt.Tr h)) (S:List Ptr),xT (Qf E q []) (kU (Qf E q []) h) ps ts S->(∀r∈ps,r.at_≠1)->xT E.K (kU E.K h) ps ts S/\ ∀r∈S,r.at_≠1:=by
   intro ps
   induction ps with
   | nil=>
    intro ts S w _
    cases ts with
    | nil=>have e:S=[]:=w;subst e;exact⟨rfl,by simp⟩
    | cons _ _=>exact w.elim
   | cons p ps ih=>
    intro ts S w hp
    cases ts with
    | nil=>exact w.elim
    | cons t ts=>
     obtain⟨nd,y,o,z,hr,C,rfl⟩:=w;have m:=hp p (zJ ..);obtain⟨s,rfl,_⟩ | ⟨_,u⟩:=uK z
     .exact absurd rfl m
     .obtain⟨_,_,_,_,_,_,_,⟨_,x⟩,_⟩:=zRn.1 u;obtain⟨f,j⟩:=kU.disk hr x;obtain⟨J,N⟩:=ih ts o C fun r hr=>hp r (zC _ hr)
      refine⟨⟨nd,y,o,u,f,J,rfl⟩,fun r hr=> ?_⟩;rcases zK.1 hr with rfl | hr
      .exact m
      .rcases qA.1 hr with e | e
       .exact j r e
       .exact N r e
  obtain⟨f,j⟩:=key nd.kids t.2 S w hk;exact⟨⟨a,b,c,f⟩,j⟩
theorem zPA{Ad:Ptr}{At:Bt.Tr k}
  (As:Wr W i v q C G J .nP P Q R w e H t V p A M) (m:W.K Ad=some l) (hr:kU (Qf W t []) k l At h):
  ∃H' a T la' E o Aw Y left',f96 D n [.ptr v 0, .agg (jS Ad)] i=some (.tuple [.agg (jS o), .int .i64 (0:Nat)],H')/\Wr { W with ws:=a} H' v q C G J .nP P left' la' E e H t V p T M/\AdT A i T H'/\WOut W.nb W.ws a w E (Ad::h) (o::Y)/\left'+cp (Ad::h)=Q/\Ev.K { W with ws:=a} o=some Aw/\kU (Ev.K { W with ws:=a}) k Aw At Y:=by
 have hk:=As.ti.ok;obtain⟨H1,A3,b1,f,g1,m1,n1⟩:=box hk (.cells (jS Ad) 42 1 false);obtain⟨u,A4,b2,x,g2,m2,n2⟩:=box f.ok (.cells [.int .i64 (0:Nat), .int .i64 (0:Nat), .int .u64 (0:Nat)] 42 1 false);obtain⟨j,e3,g3,s3,n3⟩:=jV x.ok g2 (l':=jS Ad) rfl rfl;have a0:stN 3 (.ptr A4 0) (.agg (jS Ad)) u=some (jQ,j):=e3;have N1:=f.next
 have P3:Prs i j:=(f.trans x).fresh s3 fun B hB=>by omega
 have N:=zRt x f.ok g1;have r1:Eng.ld1 (.ptr A3 0) u=some (.int .i64 Ad.at_):=by rw[jM N];rfl
 have r2:ldN 3 (.ptr A3 0) u=some (.agg (jS Ad)):=xB N rfl;have r3:ldN 3 (.ptr A4 0) j=some (.agg (jS Ad)):=xB g3 rfl;have h2:=(bU m).2;have t1:(Ad.at_≠((1:Nat):Int))=True:=eq_true (by omega);obtain⟨_,_,_,_,_,_,_,⟨_,a1⟩,_⟩:=zRn.1 m;obtain⟨hd,hS⟩:=kU.disk hr a1;have z: ∀r∈Ad::h,r.at_≠1:=fun r hr=>by
  rcases zK.1 hr with rfl | hr
  .omega
  .exact hS r hr
 have c:cp (Ad::h)=0:=by
  rw[cp,List.length_eq_zero_iff];exact List.filter_eq_nil_iff.2 fun Ad hp=>by simpa using z Ad hp
 refine⟨j,W.ws,A,R,w,Ad,l,h,Q, ?_,As.prs P3,AdT.prs P3,WOut.nil _ _ _ z,by omega,m,hd⟩;simp(maxSteps:=999999)(disch:=omega) only[f96,eZ,b1,b2,r1,t1,r2,a0,r3]
theorem zK0: ∀h,zLV h:=by
 intro h
 induction h with
 | zero=>
  unfold zLV;intro E H Aw As At M Ad txg left la is root es q a3 dr Z P k n p nd t S hk u w K hr j y a4 a5 z;rcases uK K with⟨s,rfl,f | ⟨_,f⟩⟩ | ⟨_,N⟩
  .simp[jX]at f
  .have hc:cp (pp s::S)=1+cp S:=by rw[cX];simp[pp]
   obtain⟨left,rfl⟩: ∃l,left=l+1:=⟨left - 1,by omega⟩;refine zPB k n (by omega) u w f hr j (by omega) (fun r hr=>y r (zC _ hr)) z fun O kv x4 x6 A8 l2 C a0 a1 J o T q8=> ?_
   obtain⟨rfl,rfl⟩:=hr;have b4:(Nd.leafOf t).kids=[]:=rfl;have Y:(Nd.leafOf t).kids.length=0:=rfl;obtain⟨n,rfl⟩: ∃m,n=m+1:=⟨n - 1,by omega⟩;refine⟨O,E.ws,Z,la,is,left,[],[], ?_,C,AdT.prs (zRo C.ti.ok),T,WOut.nil _ _ _ (by simp),by simp[cp],rfl,⟨rfl,rfl⟩, ?_⟩
   .rw[Y];exact jW (by simp only[zFZ,eZ,y7])
   .rw[Y,Nat.zero_mul]at o;rw[zW o]at J;exact J
  .exact zPA (dy k) n w N hr
 | succ h ih=>
  unfold zLV;intro E H Aw As At M Ad txg left la is root es q a3 dr Z P k n p nd t S hk u w K hr j y a4 a5 z;rcases uK K with⟨s,rfl,f | ⟨_,f⟩⟩ | ⟨_,N⟩
  .simp[jX]at f
  .have hc:cp (pp s::S)=1+cp S:=by rw[cX];simp[pp]
   obtain⟨left,rfl⟩: ∃l,left=l+1:=⟨left - 1,by omega⟩;obtain⟨k,rfl⟩: ∃k',k=k'+1:=⟨k - 1,by omega⟩;have a6:Nd.size nd<=500:=by rw[hr.size];exact j.sz
   have b5:nd.kids.length<=100:=by simp only[Nd.size]at a6;omega
   refine zPB (k+1) n (by omega) u w f hr j (by omega) (fun r hr=>y r (zC _ hr)) z fun O kv x4 x6 A8 l2 C a0 a1 J o T q8=> ?_
   obtain⟨a,b,c,rl⟩:=hr;obtain⟨H8,a7,Z8,a9,b0,a2,qs,S',e8,w8,a8,b1,o8,b2,hR,b3⟩:=wkids ih k n (by omega) u (x4:=x4) (x6:=x6) (cc:=2*nd.kids.length) z rfl (by omega) nd.kids t.2 S [] E O Z left la is n l2 C rl (fun x hx=>j.kid hx) (fun r hr=>y r (zC _ hr)) (by omega) (by omega) (by omega) a0 a1 rfl (by simp) J o T q8;exact⟨H8,a7,Z8,a9,b0,a2,qs,S',e8,w8,a8,b1,o8,b2,by rw[hR.len,rl.len],⟨a,b,c,hR⟩,b3⟩
  .exact zPA (dy k) n w N hr
theorem nodup_le: ∀ {l m:List Nat},l.Nodup->(∀x∈l,x∈m)->l.length<=m.length
 | [],_,_,_=>Nat.zero_le _
 | x::l,m,h,hs=>by
  obtain⟨f,hl⟩:=List.nodup_cons.1 h;have:=nodup_le (m:=m.erase x) hl fun y a=>(List.mem_erase_of_ne fun e:y=x=>f (e▸a)).2 (hs y (zC _ a))
  have hm:=hs x (zJ ..);have j:=List.length_erase_of_mem hm;have o:=List.length_pos_of_mem hm;rw[zT];omega
theorem zOL {E:Ev} : ∀ {T:List Ptr},T.Nodup->(∀r∈T,∃nd,Qf E t [] r=some nd)->cp T<=t.length:=by
 intro T q j;have z:((T.filter fun p=>decide (p.at_=1)).map fun p=>p.sum.toNat).Nodup:=by
  rw[List.nodup_iff_pairwise_ne,List.pairwise_map];refine(List.nodup_iff_pairwise_ne.1 (q.filter _)).imp_of_mem fun {a b} C hb o e=>o ?_
  obtain⟨J,K⟩:=List.mem_filter.1 C;obtain⟨b1,b2⟩:=List.mem_filter.1 hb;obtain⟨x,m⟩:=j a J;obtain⟨y,N⟩:=j b b1;have O: ∃s,a=pp s:=by
   obtain⟨s,e,_⟩ | ⟨_,f⟩:=uK m
   .exact⟨s,e⟩
   .have:=(bU f).2;simp at K;omega
  have pb: ∃s,b=pp s:=by
   obtain⟨s,e,_⟩ | ⟨_,f⟩:=uK N
   .exact⟨s,e⟩
   .have:=(bU f).2;simp at b2;omega
  obtain⟨s,rfl⟩:=O;obtain⟨u,rfl⟩:=pb;have S:s=u:=by simpa[pp]using e
  rw[S]
 have Y: ∀s∈(T.filter fun p=>decide (p.at_=1)).map fun p=>p.sum.toNat,s∈t.map (·.1):=fun s Z=>by
  obtain⟨r,hr,rfl⟩:=qZ.1 Z;obtain⟨r1,r2⟩:=List.mem_filter.1 hr;obtain⟨x,m⟩:=j r r1;obtain⟨u,rfl,h | ⟨_,h⟩⟩ | ⟨_,f⟩:=uK m
  .simp[jX]at h
  .have:(pp u).sum.toNat=u:=by simp[pp]
   rw[this];exact qZ.2 ⟨_,v7 h,rfl⟩
  .have:=(bU f).2;simp at r2;omega
 have h3:=nodup_le z Y;simpa[cp]using h3
def Dsk (H:AH)(Ad As nb:Nat)(ws:Ws)(la:Nat)(is:Nat->Nat)(V:Nat->Prop):Prop:= ∃h a f j,DkI H Ad nb ws h a f j/\Spc H As nb la is/\(∀B,V B↔B=As\/B=Ad\/B=a\/Blk f B)/\64<=nb/\nb<=8192/\la<nb/\(2<=la\/la=0)/\(is 0≠0/\is 1≠0)/\ws.length+cnt is 0 nb<=990000
theorem Dsk.prs {H H':AH}{Ad As nb la:Nat}{ws:Ws}{is:Nat->Nat}{V:Nat->Prop}(d:Dsk H Ad As nb ws la is V)(a:H.ok)(s:Prs H H'):Dsk H' Ad As nb ws la is V:=by
 obtain⟨f,h,j,m,o,p,r⟩:=d;exact⟨f,h,j,m,o.prs a s,p.stp a s (fun x=>x),r⟩
theorem Dsk.lt {H:AH}{Ad As nb la:Nat}{ws:Ws}{is:Nat->Nat}{V:Nat->Prop}(d:Dsk H Ad As nb ws la is V)(a:H.ok): ∀B,V B->B<H.next:=by
 obtain⟨o,p,q,t,f,h,j,_⟩:=d;intro B m;rcases(j B).1 m with rfl | rfl | rfl | e
 .exact h.lt a
 .exact a.lt f.gD
 .exact a.lt f.gN
 .exact Own.lt f.ow e
end Go.Eng.Sh




