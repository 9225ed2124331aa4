/- A checked evaluator for the program, and what it tells, part 6: no condition. -/
import Derived.Test.YtnnimbgajljgaaaGreatOQ5
set_option linter.all false
set_option linter.unusedVariables false
set_option linter.unusedSimpArgs false
set_option maxHeartbeats 8000000
set_option maxRecDepth 20000
section
namespace Go.Eng.Sh
open Go.Nd (Ptr yH bE)
open Go.Bt
theorem Ch.stb {H0 H H':AH}{At Ac F A:Nat}{fes:List (AV×AV)}{f:PN}{g:AV}{gl:List Ptr}{last0 last e:Nat}{b:Bool}{r:List AV}(h:Ch H0 H At Ac F fes f g gl last0 last)(gA:H.h.get A=some (.cells (.bool b::r) e 1 false))(s:Stp (fun B=>B=A) H H')(h0:H0.next<=A)(hc:A≠Ac):Ch H0 H' At Ac F fes f g gl last0 last:=
 h.other s (fun e=>hc e.symm) (fun e=>by subst e;rw[h.gF]at gA;cases gA) (fun B hB e=>by subst e;rw[h.gg.get hB]at gA;simp at gA) (fun kv hkv B hB e=>by
  subst e;obtain⟨nd2,hn2⟩:=h.pf.mem kv hkv;exact hn2.nblk gA (.inl ⟨_,_,_,_,rfl,fun _ _ e=>by cases e⟩) hB) (fun B hB=>by subst hB;exact h0)
theorem k7.stb {H H':AH}{A:Nat}{g v:AV}{nd:Nd.Node}{e:Nat}{b:Bool}{r:List AV}(h:k7 H g v nd)(gA:H.h.get A=some (.cells (.bool b::r) e 1 false))(s:Stp (fun B=>B=A) H H'):k7 H' g v nd:=
 ⟨h.1.stp s fun B hB e=>by subst e;exact h.1.nblk gA (.inl ⟨_,_,_,_,rfl,fun _ _ e=>by cases e⟩) hB,h.2⟩
theorem XQ.free {H0 H:AH}{v:AV}{nd:Nd.Node}(h:XQ H0 H v nd):wD H0.next H v nd:=by
 obtain⟨ks,vs,ps,rfl,h1,h2,h3,h4,_⟩:=h;exact⟨⟨ks,vs,ps,rfl, .inl h1, .inl h2, .inl h3⟩,fun B hB=>h4 B (kD.1 hB)⟩
theorem dG {l:List AV}{H:AH}{nd:Nd.Node}(h:yC H (.agg l) nd): ∃r,l= .bool nd.leaf::r/\l.length=4/\qP l=true:=by
 obtain⟨ks,vs,ps,e,h1,h2,h3⟩:=h;simp only[AV.agg.injEq]at e;subst e;exact⟨_,rfl,rfl,cI _ _ _ _ h1.row.isCell h2.row.isCell h3.row.isCell⟩
theorem zCA (D:Dyn)(n:Nat)(hn:200000000<=n){H0 H:AH}{At Ac F M i h:Nat}{d c dr:AV}{root:Ptr}{es:List (AV×AV)}{q:PN}{fes:List (AV×AV)}{f:PN}{g:AV}{gl:List Ptr}{last0 last:Nat}{ln lk:List AV}{nd kd:Nd.Node}{t:Bt.Tr (h+1)}{x tk:Bt.Tr h}{Sa Sb Sx:List Ptr}{lo hi:Bd}
  (ti:TI H0 At M d c root es q last0 dr) (hold: ∀kv∈es,∀B,xZ kv.2 B->B<H0.next) (hq: ∀s nd,qV s q=some nd->s<=last0) (ch:Ch H0 H At Ac F fes f g gl last0 last)
  (hv:k7 H g (.agg ln) nd) (hkd:k7 H g (.agg lk) kd)
  (n1:nd.leaf=false) (n2:nd.keys=t.1) (n3:nd.vals=[]) (n4:nd.kids.length=t.2.length) (wi:Inn (WF h) lo hi t) (hne:t.1≠[]) (hz:jH t.1 t.2.length<=500) (him:t.2[i]? =some tk)
  (ra:kZ (Qf q []) (jG (Qf q []) h) (nd.kids.take i) (t.2.take i) Sa) (rb:kZ (Qf q []) (jG (Qf q []) h) (nd.kids.drop (i+1)) (t.2.drop (i+1)) Sb)
  (rx:jG (Qf q f) h kd x Sx) (wx:WX h (YR lo t.1 i) (cN t.1 hi i) x) (kne:0<h->kd.keys≠[]) (hb:last<=700000000) (hgl:gl.length+1<=last+1000):
  ∃u H' fes' f' g' gl' last' nd' t' S' G R,f74 D n [.ptr Ac 0, .agg ln, .int .i64 (i:Nat), .agg lk] H=some (.tuple [u, .int .i64 ((0:Nat):Int)],H')/\
   Ch H0 H' At Ac F fes' f' g' gl' last0 last'/\Adv Ac F H g H' g'/\k7 H' g' u nd'/\jG (Qf q f') (h+1) nd' t' S'/\Inn (WF h) lo hi t'/\
   con (h+1) t'=(t.2.take i).flatMap (con h)++con h x++(t.2.drop (i+1)).flatMap (con h)/\jH t'.1 t'.2.length<=jH t.1 t.2.length+285/\t.1.length<=t'.1.length+1/\last<=last'/\last'<=last+6/\gl'=gl++G/\
   S'.Perm (pps last (last' - last)++(R++Sx))/\(Sa++Sb).Perm (G++R)/\(∀p nd,Qf q f p=some nd->Qf q f' p=some nd)/\G.length<=1:=by
 obtain⟨hi',rfl⟩:=List.getElem?_eq_some_iff.1 him;have hlen:=wi.2.2.len;obtain⟨rn,hln,lnl,lnc⟩:=dG hv.1;obtain⟨rk,hlk,lkl,lkc⟩:=dG hkd.1;obtain⟨H1,A5,b1,p1,g1,m1,n1'⟩:=box ch.prs.ok (.cells ln 111 1 false);obtain⟨H2,A7,b2,p2,g2,m2,n2'⟩:=box p1.ok (.cells lk 111 1 false);obtain⟨H3,A8,b3,p3,g3,m3,n3'⟩:=box p2.ok (.cells [.bool false, .nilSlice, .nilSlice, .nilSlice] 111 1 false);have P3:Prs H H3:=(p1.trans p2).trans p3;have g13:=Prs.get p3 p2.ok (Prs.get p2 p1.ok g1);have g23:=Prs.get p3 p2.ok g2;have hsm:small kd:=xJ (by rw[rx.size];have:=wx.sz;omega);obtain⟨z,H4,e4,rfl,p4⟩:=zA1 D n P3.ok (hkd.1.prs P3).node hsm hn;have P4:=P3.trans p4;have g14:=Prs.get p4 P3.ok g13;have g24:=Prs.get p4 P3.ok g23;have g34:=Prs.get p4 P3.ok g3;have ch4:=ch.step P4;have N0:=ch.prs.next
 have cc:=ch.ltC;have hqf: ∀p nd,Qf q [] p=some nd->Qf q f p=some nd:=fun p nd hp=>by
  have:=XO (new:=f) hq (fun s nd' hs=>(ch.fs s nd' hs).1) hp;simpa using this
 have moreL: ∀ {ps:List Ptr} {ts:List (Bt.Tr h)} {S:List Ptr},kZ (Qf q []) (jG (Qf q []) h) ps ts S->kZ (Qf q f) (jG (Qf q f) h) ps ts S:=fun r=>r.mono (fun p _ nd hp=>hqf p nd hp) (fun nd t S1 _ hr=>hr.mono fun p _ nd hp=>hqf p nd hp)
 have hii:((i:Nat):Int)+((1:Nat):Int)=((i+1:Nat):Int):=by omega
 have hiz:i<=1000:=by simp only[jH]at hz;omega
 have hsize:=rx.size;by_cases hthin:jA h x<160
 case neg=>
  have hthI: ¬((Nd.size kd:Nat):Int)< ((160:Nat):Int):=by omega
  have fx:Full h x:=by
   cases h with
   | zero=>
    intro e;have e:x=([]:Nd.Kvs):=e;rw[e]at hthin;exact hthin (by decide)
   | succ h=>exact Nat.le_of_not_lt hthin
  obtain⟨u,H5,fes',f',last',nd',t',S',e5,hc5,st,hu,hfr,r5,w5,c5,z5,k5,l1,l2,pm,more⟩:=VP D n hn (i:=i) (m:=0) (h:=h) ch4 g14 g24 g34 (by omega) (by have:=p1.next;omega) (by have:=p1.next;have:=p2.next;omega) (by have:=p2.next;omega) (by omega) (by have:=p1.next;have:=p2.next;omega)
   (hv.prs P4) (hkd.prs P4) hq n1 n2 n3 n4 wi hne hz (by simpa using hi') (moreL ra) (by simpa using moreL rb) rx (by simpa using wx) fx kne (by omega)
  refine⟨u,H5,fes',f',g,gl,last',nd',t',S',[],Sa++Sb, ?_,hc5, ?_,hu,r5,w5,by simpa using c5,z5,by omega,l1,l2,by simp, ?_,by simp,more,by simp⟩
  ·simp(maxSteps:=999999)(disch:=omega) only[f74,eZ,b1,b2,b3,hii,vL g23 lkl,e4,hthI];simp only[Nat.add_zero]at e5;rw[e5];rfl
  ·refine⟨⟨st.ok,by have:=st.next;have:=P4.next;omega,fun B hB hS=> ?_⟩,fun B hB=> .inl hB⟩
   rw[st.keep B (by have:=P4.next;omega) (fun hx=>by
    rcases hx with hx | hx
    ·exact hS hx
    ·have:=p1.next;have:=p2.next;omega)]
   exact P4.keep B hB (fun x=>x)
  ·exact pm
 case pos=>
 have hthI:((Nd.size kd:Nat):Int)< ((160:Nat):Int):=by omega
 have side: ∃b ndb tb Sbb s,nd.kids[b]? =some (pp s)/\qV s q=some ndb/\jG (Qf q []) h ndb tb Sbb/\t.2[b]? =some tb/\
   ((b+1=i/\ ∃Sa',kZ (Qf q []) (jG (Qf q []) h) (nd.kids.take b) (t.2.take b) Sa'/\Sa=Sa'++(pp s::Sbb))\/(i=0/\b=1/\ ∃Sb',kZ (Qf q []) (jG (Qf q []) h) (nd.kids.drop 2) (t.2.drop 2) Sb'/\Sb=pp s::(Sbb++Sb'))):=by
  have hkl:0<t.1.length:=by
   rcases Nat.eq_zero_or_pos t.1.length with e | e
   ·exact absurd (zH e) hne
   ·exact e
  cases i with
  | zero=>
   have h1:1<t.2.length:=by omega
   rw[show(0+1:Nat)=1 from rfl,zN h1,zN (show 1<nd.kids.length by omega)]at rb;obtain⟨ndb,S1,S2,q1,q2,q3,e⟩:=rb;obtain⟨s,es,hs⟩:=bL q1;rcases hs with hs | ⟨_,hs⟩
   ·simp[qV]at hs
   ·exact⟨1,ndb,t.2[1],S1,s,by rw[zC (by omega),es],hs,q2,zC h1, .inr ⟨rfl,rfl,S2,q3,by rw[e,es]⟩⟩
  | succ j=>
   have h1:j<t.2.length:=by omega
   rw[zJ h1,zJ (show j<nd.kids.length by omega)]at ra;obtain⟨T1,T2,r1,r2,e⟩:=ra.split j;have e1:(nd.kids.take j++[nd.kids[j]'(by omega)]).take j=nd.kids.take j:=List.take_left' (by rw[zG];omega);have e2:(nd.kids.take j++[nd.kids[j]'(by omega)]).drop j=[nd.kids[j]'(by omega)]:=List.drop_left' (by rw[zG];omega);have e3:(t.2.take j++[t.2[j]]).take j=t.2.take j:=List.take_left' (by rw[zG];omega);have e4:(t.2.take j++[t.2[j]]).drop j=[t.2[j]]:=List.drop_left' (by rw[zG];omega);rw[e1,e3]at r1;rw[e2,e4]at r2;obtain⟨ndb,S1,S2,q1,q2,q3,e5⟩:=r2;have q3:S2=[]:=q3;subst q3;obtain⟨s,es,hs⟩:=bL q1;rcases hs with hs | ⟨_,hs⟩
   ·simp[qV]at hs
   ·exact⟨j,ndb,t.2[j],S1,s,by rw[zC (by omega),es],hs,q2,zC h1, .inl ⟨rfl,T1,r1,by rw[e,e5,es,List.append_nil]⟩⟩
 obtain⟨b,ndb,tb,Sbb,s,kb,hs,rbb,htb,hcase⟩:=side;obtain⟨hbl,rfl⟩:=List.getElem?_eq_some_iff.1 htb;have hbk:b<nd.kids.length:=by omega
 have hkb:nd.kids[b]=pp s:=by rw[zC hbk]at kb;exact Option.some.inj kb
 have wb:WF h (YR lo t.1 b) (cN t.1 hi b) t.2[b]:=KB.at wi.2.2 htb;have ti4:=ti.prs ch4.prs;obtain⟨ks,vs0,ps,hle,k1,k2,k3⟩:=id (hv.prs P4).1;simp only[AV.agg.injEq]at hle;obtain⟨H5,A13,b5,p5,g5,m5,n5⟩:=box ch4.prs.ok (.cells [.bool false, .nilSlice, .nilSlice, .nilSlice] 111 1 false);obtain⟨vb,H6,e6,p6,hgb,hmem⟩:=zA5 D n (ti4.prs p5) hs;obtain⟨kk,hmem⟩:=hmem;obtain⟨lb,rfl,lbl,lbc⟩:=hgb.cells;obtain⟨H7,e7,g7,s7,n7⟩:=qX p6.ok (Prs.get p6 p5.ok g5) (l':=lb) lbl lbc;have e7':stN 4 (.ptr A13 0) (.agg lb) H6=some (qN,H7):=e7;have N4:=P4.next;have N5:=p5.next;have N6:=p6.next
 have p47:Prs H4 H7:=(p5.trans p6).fresh s7 (fun B hB=>by omega);have ch7:=ch4.step p47;have hgb7:yC H7 (.agg lb) ndb:=hgb.stp s7 (fun B hB e=>by
  subst e;exact hgb.nblk (Prs.get p6 p5.ok g5) (.inl ⟨_,_,_,_,rfl,fun _ _ e=>by cases e⟩) hB)
 have hb7:k7 H7 g (.agg lb) ndb:=hgb7.hand ch7 (fun B hB=>hold _ hmem B hB);obtain⟨g',H8,e8,ch8,a8⟩:=zF1 D n ch7 (pp s) hgl (by omega);have hv8:=ch7.next (hv.prs (P4.trans p47)) a8
 have hk8:=ch7.next (hkd.prs (P4.trans p47)) a8
 have hb8:=ch7.next hb7 a8
 have np: ∀ {A:Nat} {l:List AV} {e:Nat},H7.h.get A=some (.cells l e 1 false)->A≠Ac-> ¬chg Ac F g A:=fun {A l e} hg hne hc=>by
  rcases hc with e | e | e
  ·exact hne e
  ·rw[e,ch7.gF]at hg;cases hg
  ·rw[ch7.gg.get e]at hg;simp at hg
 have M1:=p1.next;have M2:=p2.next;have M3:=p3.next;have M4:=p4.next;have M7:=p47.next
 have g57:=Prs.get p47 P4.ok g14;have g77:=Prs.get p47 P4.ok g24;have g87:=Prs.get p47 P4.ok g34;have g58:H8.h.get A5=some (.cells ln 111 1 false):=by rw[a8.1.keep _ (by omega) (np g57 (by omega))];exact g57
 have g78:H8.h.get A7=some (.cells lk 111 1 false):=by rw[a8.1.keep _ (by omega) (np g77 (by omega))];exact g77
 have g88:H8.h.get A8=some (.cells [.bool false, .nilSlice, .nilSlice, .nilSlice] 111 1 false):=by rw[a8.1.keep _ (by omega) (np g87 (by omega))];exact g87
 have g138:H8.h.get A13=some (.cells lb 111 1 false):=by rw[a8.1.keep _ (by omega) (np g7 (by omega))];exact g7
 have k34:uO H4 ps nd.kids:=k3.row;obtain⟨q4,i4,i4'⟩:=k34.at hbk;obtain⟨q7,i7,i7'⟩:=(k34.prs p47).at hbk;rw[hkb]at i4' i7';obtain rfl:q7=q4:=by
  have e1:=i4 .i64 b rfl;rw[i7 .i64 b rfl]at e1;exact Option.some.inj e1
 have hsmb:small ndb:=xJ (by rw[rbb.size];have:=wb.sz;omega);have rbf:jG (Qf q f) h ndb t.2[b] Sbb:=rbb.mono fun p _ nd hp=>hqf p nd hp
 have neb:0<h->ndb.keys≠[]:=fun hh=>by
  cases h with
  | zero=>omega
  | succ h=>
   have:=QP wb;rw[rbb.2.1];intro e;rw[e]at this;simp at this
 have t00: ¬(((0:Nat):Int)≠((0:Nat):Int)):=by omega
 have hcells: ∀Hx:AH,Hx.h.get A5=some (.cells ln 111 1 false)->ld1 (.ptr A5 3) Hx=some ps/\ld1 (.ptr A5 1) Hx=some ks:=fun Hx hg=>by
  rw[qM hg,qM hg,hle];exact⟨rfl,rfl⟩
 have hK8:Strs H8 ks nd.keys:=by
  obtain⟨ks',vs',ps',hle',j1,j2,j3⟩:=id hv8.1;simp only[AV.agg.injEq]at hle';rw[hle]at hle';simp only[List.cons.injEq,and_true]at hle';obtain⟨_,rfl,_,_⟩:=hle';exact j1.row
 have fin: ∀(j m:Nat) (sep:Str) (u:AV) (jn':Nd.Node) (x':Bt.Tr h) (Sx' Sa' Sb':List Ptr) (H9:AH),Prs H8 H9->XQ H8 H9 u jn'->jG (Qf q f) h jn' x' Sx'->WX h (YR lo t.1 j) (cN t.1 hi (j+m)) x'->Full h x'->(0<h->jn'.keys≠[])->j+m<t.2.length->
   kZ (Qf q f) (jG (Qf q f) h) (nd.kids.take j) (t.2.take j) Sa'->kZ (Qf q f) (jG (Qf q f) h) (nd.kids.drop (j+m+1)) (t.2.drop (j+m+1)) Sb'->
   ∃H10,stN 4 (.ptr A7 0) u H9=some (qN,H10)/\ ∃u H' fes' f' last' nd' t' S',zFj D n [.ptr Ac 0, .ptr A5 0, .ptr A7 0, .ptr A8 0, .int .i64 (j:Nat), .int .i64 ((j+m+1:Nat):Int)] H10=some (.ret (.tuple [u, .int .i64 ((0:Nat):Int)]),H')/\
    Ch H0 H' At Ac F fes' f' g' (gl++[pp s]) last0 last'/\Adv Ac F H g H' g'/\k7 H' g' u nd'/\jG (Qf q f') (h+1) nd' t' S'/\Inn (WF h) lo hi t'/\
    con (h+1) t'=(t.2.take j).flatMap (con h)++con h x'++(t.2.drop (j+m+1)).flatMap (con h)/\jH t'.1 t'.2.length<=jH t.1 t.2.length+285/\t.1.length<=t'.1.length+m/\last<=last'/\last'<=last+6/\
    S'.Perm (pps last (last' - last)++(Sa'++Sb'++Sx'))/\ ∀p nd,Qf q f p=some nd->Qf q f' p=some nd:=by
  intro j m sep u jn' x' Sx' Sa' Sb' H9 p9 w9 rx' wx' fx' kne' hjm ra' rb';have wf9:=w9.free;obtain⟨lu,rfl,lul,luc⟩:=wf9.1.cells;have ch9:=ch8.step p9;have ha9:k7 H9 g' (.agg lu) jn':=wD.hand ch8 (Nat.le_refl _) wf9;have g79:=Prs.get p9 ch8.prs.ok g78;obtain⟨H10,e10,g10,s10,n10⟩:=qX p9.ok g79 (l':=lu) (by omega) luc;have e10':stN 4 (.ptr A7 0) (.agg lu) H9=some (qN,H10):=by rw[lkl]at e10;exact e10
  rw[hlk]at g79;have ch10:=ch9.stb g79 s10 (by omega) (by omega);have N8:=a8.1.next;have N9:=p9.next
  have g5x:H10.h.get A5=some (.cells ln 111 1 false):=by rw[s10.keep _ (by omega) (by omega)];exact Prs.get p9 ch8.prs.ok g58
  have g8x:H10.h.get A8=some (.cells [.bool false, .nilSlice, .nilSlice, .nilSlice] 111 1 false):=by rw[s10.keep _ (by omega) (by omega)];exact Prs.get p9 ch8.prs.ok g88
  obtain⟨u',H',fes',f',last',nd',t',S',e5,hc5,st,hu,hfr,r5,w5,c5,z5,k5,l1,l2,pm,more⟩:=VP D n hn (i:=j) (m:=m) (h:=h) ch10 g5x g10 g8x (by omega) (by omega) (by omega) (by omega) (by omega) (by omega)
   ((hv8.prs p9).stb g79 s10) (ha9.stb g79 s10) hq n1 n2 n3 n4 wi hne hz hjm ra' rb' rx' wx' fx' kne' (by omega)
  refine⟨H10,e10',u',H',fes',f',last',nd',t',S',e5,hc5, ?_,hu,r5,w5,c5,z5,k5,l1,l2,pm,more⟩;refine⟨⟨st.ok,by have:=st.next;omega,fun B hB hS=> ?_⟩,fun B hB=> ?_⟩
  ·have a1:H8.h.get B=H.h.get B:=by
    rw[a8.1.keep B (by omega) hS,p47.keep B (by omega) (fun x=>x)];exact P4.keep B hB (fun x=>x)
   rw[st.keep B (by omega) (fun hx=>by
    rcases hx with hx | hx
    ·rcases hx with e | e | e
     ·exact hS (.inl e)
     ·exact hS (.inr (.inl e))
     ·rcases a8.2 B e with e | e
      ·exact hS (.inr (.inr e))
      ·omega
    ·omega),s10.keep B (by omega) (by omega),p9.keep B (by omega) (fun x=>x)]
   exact a1
  ·rcases a8.2 B hB with e | e
   ·exact .inl e
   ·exact .inr (by omega)
 rcases hcase with⟨hbi,Sa',ra',rfl⟩ | ⟨rfl,rfl,Sb',rb',rfl⟩
 ·
  subst hbi;have hkey:b<t.1.length:=by omega
  have hsep:=wi.1 _ (zR hkey);have hgk:t.1.getD b []=t.1[b]:=by rw[zM,zC hkey];rfl
  have hs1:cN t.1 hi b=some t.1[b]:=by simp only[cN,zC hkey]
  have hs2:YR lo t.1 (b+1)=some t.1[b]:=by simp only[YR,zC hkey]
  rw[hs1]at wb;rw[hs2]at wx;have hjm:=zBt rbf rx wb.gen wx.gen hsep.1 neb kne (jG.kidOk rbf) (jG.kidOk rx);obtain⟨u,H9,e9,p9,w9⟩:=zEK D n hn ch8.prs.ok (sep:=t.1[b]) hb8.1.node hk8.1.node hsmb hsm;rw[hjm]at e9 w9;simp only[if_true]at e9 w9;have hls:=JS hsep.1;have js:=QV h t.2[b] t.1[b] x hls;have wj:WX h (YR lo t.1 b) (cN t.1 hi (b+1)) (dK h t.2[b] t.1[b] x):=Gen.wx (zBu wb.gen wx.gen ⟨hsep.1,by
   have hmono:=KB.at wi.2.2 (zC hbl)
   cases b with
   | zero=>exact hsep.2.1
   | succ b'=>
    simp only[YR,zC (show b'<t.1.length by omega)];have:=(Nd.rising_ix ltS t.1).1 wi.2.1 b' hkey;exact this,by
   by_cases e:b+1<t.1.length
   ·simp only[cN,zC e];exact(Nd.rising_ix ltS t.1).1 wi.2.1 b e
   ·simp only[cN,List.getElem?_eq_none (show t.1.length<=b+1 by omega)];exact hsep.2.2⟩) (by have:=wb.sz;omega)
  obtain⟨H10,e10,u',H',fes',f',last',nd',t',S',e5,hc5,adv,hu,r5,w5,c5,z5,k5,l1,l2,pm,more⟩:=fin b 1 t.1[b] u _ _ (Sbb++Sx) Sa' Sb H9 p9 w9 (jG.join rbf rx t.1[b]) wj (UG hls (.inl wb.full)) (fun hh e=>by
   cases h with
   | zero=>omega
   | succ h=>
    have:(bE ndb t.1[b] kd).keys=ndb.keys++([t.1[b]]++kd.keys):=by simp only[bE,rbf.1,Bool.false_eq_true,if_false]
    rw[this]at e;simp at e) (by omega) (moreL ra') (moreL rb)
  refine⟨u',H',fes',f',g',gl++[pp s],last',nd',t',S',[pp s],Sa'++(Sbb++Sb), ?_,hc5,adv,hu,r5,w5, ?_,z5,k5,l1,l2,rfl, ?_, ?_,more,by simp⟩
  ·have hb1:((b+1:Nat):Int) - ((1:Nat):Int)=((b:Nat):Int):=by omega
   have hb0: ¬((b+1:Nat):Int)=((0:Nat):Int):=by omega
   have hmn:mn2 (.int .i64 ((b+1:Nat):Int)) (.int .i64 ((b:Nat):Int))=some (.int .i64 ((b:Nat):Int)):=by
    have:ilt ((b:Nat):Int) ((b+1:Nat):Int)=true:=by rw[xA];simp;omega
    simp only[mn2,this,cond_true]
   have hmx:mx2 (.int .i64 ((b+1:Nat):Int)) (.int .i64 ((b:Nat):Int))=some (.int .i64 ((b+1:Nat):Int)):=by
    have:ilt ((b+1:Nat):Int) ((b:Nat):Int)=false:=by rw[xA];simp;omega
    simp only[mx2,this,cond_false]
   have hlss:((b:Nat):Int)< ((b+1:Nat):Int):=by omega
   have hii':((b+1:Nat):Int)+((1:Nat):Int)=((b+1+1:Nat):Int):=by omega
   obtain⟨qk,ik,ik'⟩:=hK8.at (i:=b) (by rw[n2];exact hkey);have hnk:nd.keys[b]'(by rw[n2];exact hkey)=t.1[b]:=by simp[n2]
   rw[hnk]at ik';simp(config:= { maxSteps:=2000000}) (disch:=omega) only[f74,eZ,b1,b2,b3,hii',vL g23 lkl,e4,hthI,hb1,hb0,zL9,qM ch4.gC,(hcells H4 g14).1,i4,i4',b5,e6,qL,nth,e7',t00,(hcells H7 g57).1,i7,i7',e8,hmn,hmx,hlss,vL g138 lbl,(hcells H8 g58).2,ik,ik',vL g78 lkl,e9,e10,zLa,e5]
  ·rw[c5,zC2,zJ hbl,qD,zP,List.flatMap_nil,List.append_nil];simp only[List.append_assoc]
  ·rw[List.perm_iff_count]at pm⊢;intro a;have:=pm a;simp only[List.count_append,List.count_cons]at this⊢;omega
  ·rw[List.perm_iff_count];intro a;simp only[List.count_append,List.count_cons,List.count_nil];omega
 ·
  have hkey:0<t.1.length:=by omega
  have hsep:=wi.1 _ (zR hkey);have hs1:cN t.1 hi 0=some t.1[0]:=by simp only[cN,zC hkey]
  have hs2:YR lo t.1 1=some t.1[0]:=by simp only[YR,zC hkey]
  rw[hs2]at wb;rw[hs1]at wx;have hjm:=zBt rx rbf wx.gen wb.gen hsep.1 kne neb (jG.kidOk rx) (jG.kidOk rbf);obtain⟨u,H9,e9,p9,w9⟩:=zEK D n hn ch8.prs.ok (sep:=t.1[0]) hk8.1.node hb8.1.node hsm hsmb;rw[hjm]at e9 w9;simp only[if_true]at e9 w9;have hls:=JS hsep.1;have js:=QV h x t.1[0] t.2[1] hls;have wj:WX h (YR lo t.1 0) (cN t.1 hi (0+1)) (dK h x t.1[0] t.2[1]):=Gen.wx (zBu wx.gen wb.gen ⟨hsep.1,hsep.2.1,by
   by_cases e:1<t.1.length
   ·simp only[cN,zC (show 0+1<t.1.length by omega)];exact(Nd.rising_ix ltS t.1).1 wi.2.1 0 (by omega)
   ·simp only[cN,List.getElem?_eq_none (show t.1.length<=0+1 by omega)];exact hsep.2.2⟩) (by have:=wb.sz;omega)
  obtain⟨H10,e10,u',H',fes',f',last',nd',t',S',e5,hc5,adv,hu,r5,w5,c5,z5,k5,l1,l2,pm,more⟩:=fin 0 1 t.1[0] u _ _ (Sx++Sbb) Sa Sb' H9 p9 w9 (jG.join rx rbf t.1[0]) wj (UG hls (.inr wb.full)) (fun hh e=>by
   cases h with
   | zero=>omega
   | succ h=>
    have:(bE kd t.1[0] ndb).keys=kd.keys++([t.1[0]]++ndb.keys):=by simp only[bE,rx.1,Bool.false_eq_true,if_false]
    rw[this]at e;simp at e) (by omega) (moreL ra) (moreL rb')
  refine⟨u',H',fes',f',g',gl++[pp s],last',nd',t',S',[pp s],Sa++(Sbb++Sb'), ?_,hc5,adv,hu,r5,w5, ?_,z5,k5,l1,l2,rfl, ?_, ?_,more,by simp⟩
  ·have hmn:mn2 (.int .i64 ((0:Nat):Int)) (.int .i64 ((1:Nat):Int))=some (.int .i64 ((0:Nat):Int)):=rfl;have hmx:mx2 (.int .i64 ((0:Nat):Int)) (.int .i64 ((1:Nat):Int))=some (.int .i64 ((1:Nat):Int)):=rfl;have hlss: ¬((1:Nat):Int)< ((0:Nat):Int):=by omega
   have h11:((1:Nat):Int)+((1:Nat):Int)=((0+1+1:Nat):Int):=by omega
   obtain⟨qk,ik,ik'⟩:=hK8.at (i:=0) (by rw[n2];exact hkey);have hnk:nd.keys[0]'(by rw[n2];exact hkey)=t.1[0]:=by simp[n2]
   rw[hnk]at ik';simp(config:= { maxSteps:=2000000}) (disch:=omega) only[f74,eZ,b1,b2,b3,vL g23 lkl,e4,hthI,zL9,qM ch4.gC,(hcells H4 g14).1,i4,i4',b5,e6,qL,nth,e7',t00,(hcells H7 g57).1,i7,i7',e8,hmn,hmx,hlss,h11,vL g138 lbl,(hcells H8 g58).2,ik,ik',vL g78 lkl,e9,e10,zLa,e5]
  ·have e1:t.2.drop (0+1)=t.2[1]::t.2.drop 2:=zN hbl;rw[c5,zC2,e1];simp only[List.take_zero,List.flatMap_nil,List.nil_append,zP,List.append_assoc,show 0+1+1=2 from rfl]
  ·rw[List.perm_iff_count]at pm⊢;intro a;have:=pm a;simp only[List.count_append,List.count_cons]at this⊢;omega
  ·rw[List.perm_iff_count];intro a;simp only[List.count_append,List.count_cons,List.count_nil];omega
end Go.Eng.Sh
end
section
namespace Go.Bt
open Go.Nd (Str Kvs lookP putP delP qQ mayK)
open Go.Eng (ltS)
inductive Ed
 | put (k v:Str)
 | del (k:Str)
def Ed.key:Ed->Str
 | .put k _=>k
 | .del k=>k
def Ed.run:Ed->Kvs->Option Kvs
 | .put k v,l=>some (putP k v l)
 | .del k,l=>if(lookP k l).isSome then some (delP k l)else none
def Ed.ok:Ed->Prop
 | .put k v=>mayK k=true/\v.length<=200
 | .del k=>mayK k=true
theorem Ed.run_mid (ed:Ed){A C B:Kvs}(hA: ∀p∈A,ltS p.1 ed.key=true)(hB: ∀p∈B,ltS ed.key p.1=true):ed.run (A++C++B)=(ed.run C).map fun c=>A++c++B:=by
 cases ed with
 | put k v=>simp only[Ed.run,Option.map_some,zKw (k:=k) hA hB]
 | del k=>
  simp only[Ed.run,zHB (k:=k) hA hB,zLq (k:=k) hA hB];split<;>rfl
theorem Ed.leaf {ed:Ed}{lo hi:Bd}{l l':Kvs}(hw:Lf lo hi l)(hl:zEF lo ed.key)(hh:hiB hi ed.key)(ho:ed.ok)(hr:ed.run l=some l'):Lf lo hi l'/\jD l'<=jD l+242:=by
 cases ed with
 | put k v=>
  simp only[Ed.run,z7]at hr;subst hr;exact zHC hw hl hh ho.1 ho.2
 | del k=>
  simp only[Ed.run]at hr;split at hr
  ·simp only[z7]at hr;subst hr;have:=zHD k hw;exact⟨this.1,by omega⟩
  ·cases hr
end Go.Bt
namespace Go.Eng.Sh
open Go.Nd (Ptr yH qQ Kvs)
open Go.Bt
def edF (ed:Ed)(K V:Nat):AV:=match ed with
 | .put _ _=> .func 53 [] [.ptr K 0, .ptr V 0]
 | .del _=> .func 56 [] [.ptr K 0]
def edB (H:AH)(ed:Ed)(K V:Nat):Prop:=match ed with
 | .put k v=>Box H K (S k)/\Box H V (S v)
 | .del k=>Box H K (S k)
theorem edB.prs {H H':AH}{ed:Ed}{K V:Nat}(h:edB H ed K V)(hk:H.ok)(s:Prs H H'):edB H' ed K V:=by
 cases ed with
 | put k v=>exact⟨h.1.mono hk s (fun x=>x),h.2.mono hk s (fun x=>x)⟩
 | del k=>exact Box.mono h hk s (fun x=>x)
def edL (ed:Ed)(l:Kvs):Nd.Node×Nat:=match ed.run l with
 | some l'=>(qQ l',0)
 | none=>(nd0,5)
theorem zIg (m:Nat)(hm:200000000<=m){H:AH}(hk:H.ok){ed:Ed}{K V:Nat}{v:AV}{l:Kvs}{lo hi:Bd}(hv:yC H v (qQ l))(hw:Lf lo hi l)(hz:jD l<=10000)(ho:ed.ok)(hb:edB H ed K V):
  ∃u H',(match ed with | .put _ _=>f53 (dy m) m [v, .ptr K 0, .ptr V 0] H | .del _=>f56 (dy m) m [v, .ptr K 0] H)=some (.tuple [u, .int .i64 (((edL ed l).2:Nat):Int)],H')/\Prs H H'/\wD H.next H' u (edL ed l).1:=by
 have hsh:Nd.shaped ltS (qQ l)=true:=Nd.leaf_shaped hw.1 fun p hp=>(hw.2 p hp).2.2
 obtain⟨lv,rfl,lvl,lvc⟩:=hv.cells;obtain⟨H1,A3,b1,p1,g1,m1,n1⟩:=box hk (.cells lv 111 1 false);obtain⟨H2,A4,b2,p2,g2,m2,n2⟩:=box p1.ok (.cells [.bool false, .nilSlice, .nilSlice, .nilSlice] 111 1 false);have P2:=p1.trans p2;have hsm:small (qQ l):=xJ hz;have N1:=p1.next;have N2:=p2.next
 have fin: ∀ {u:AV} {nd:Nd.Node} {H3:AH},Prs H2 H3->wD H2.next H3 u nd-> ∃H4,stN 4 (.ptr A4 0) u H3=some (qN,H4)/\Prs H H4/\wD H.next H4 u nd/\ldN 4 (.ptr A4 0) H4=some u:=fun {u nd H3} p3 hu=>by
  obtain⟨lu,rfl,lul,luc⟩:=hu.1.cells;obtain⟨H4,e4,g4,s4,n4⟩:=qX p3.ok (Prs.get p3 P2.ok g2) (l':=lu) lul luc;refine⟨H4,e4,(P2.trans p3).fresh s4 (fun B hB=>by omega),⟨hu.1.stp s4 (fun B hB e=> ?_),fun B hB=>by have:=hu.2 B hB;omega⟩,vL g4 lul⟩;have:=hu.2 B hB;omega
 cases ed with
 | put k x=>
  obtain⟨u,H3,e3,p3,w3⟩:=zHm (dy m) m hm P2.ok (key:=k) (value:=x) (hv.prs P2) hsm;have hpo:zCy (qQ l) k x=true:=by simp only[zCy,hsh,show(qQ l).leaf=true from rfl,ho.1,ho.2,Bool.true_and,decide_true]
  rw[hpo]at e3 w3;simp only[if_true,Nd.put_leaf _ _ hw.1]at e3 w3;obtain⟨H4,e4,P4,w4,l4⟩:=fin p3 w3;refine⟨u,H4, ?_,P4,w4⟩;simp(maxSteps:=999999)(disch:=omega) only[f53,eZ,b1,b2,vL (Prs.get p2 p1.ok g1) lvl,(hb.1.mono hk P2 (fun x=>x)).ld,(hb.2.mono hk P2 (fun x=>x)).ld,e3,qL,nth,e4,l4,edL,Ed.run]
 | del k=>
  obtain⟨u,H3,e3,p3,w3⟩:=zIp (dy m) m hm P2.ok (key:=k) (hv.prs P2) hsm;have hde:zLW (qQ l) k=if(Nd.lookP k l).isSome then 0 else 5:=by
   simp only[zLW,hsh,show(qQ l).leaf=true from rfl,Bool.and_self,if_true,Nd.here_look _ hw.1]
  obtain⟨H4,e4,P4,w4,l4⟩:=fin p3 w3
  cases hs:(Nd.lookP k l).isSome with
  | true=>
   rw[hs]at hde;simp only[if_true]at hde;rw[hde]at e3;simp only[hde,if_true,Nd.del_leaf _ hw.1 ((Nd.here_look _ hw.1).trans hs)]at w4;have hel:edL (.del k) l=(qQ (Nd.delP k l),0):=by simp only[edL,Ed.run,hs,if_true]
   refine⟨u,H4, ?_,P4,by rw[hel];exact w4⟩;rw[hel];simp(maxSteps:=999999)(disch:=omega) only[f56,eZ,b1,b2,vL (Prs.get p2 p1.ok g1) lvl,(Box.mono hb hk P2 (fun x=>x)).ld,e3,qL,nth,e4,l4]
  | false=>
   rw[hs]at hde;simp only[Bool.false_eq_true,if_false]at hde;rw[hde]at e3;have h5: ¬(5:Nat)=0:=by decide
   simp only[hde,h5,if_false]at w4;have hel:edL (.del k) l=(nd0,5):=by simp only[edL,Ed.run,hs,Bool.false_eq_true,if_false]
   refine⟨u,H4, ?_,P4,by rw[hel];exact w4⟩;rw[hel];simp(maxSteps:=999999)(disch:=omega) only[f56,eZ,b1,b2,vL (Prs.get p2 p1.ok g1) lvl,(Box.mono hb hk P2 (fun x=>x)).ld,e3,qL,nth,e4,l4]
theorem zG1 (m n:Nat)(hm:200000000<=m){H:AH}(hk:H.ok){ed:Ed}{K V:Nat}{v:AV}{l:Kvs}{lo hi:Bd}(hv:yC H v (qQ l))(hw:Lf lo hi l)(hz:jD l<=10000)(ho:ed.ok)(hb:edB H ed K V):
  ∃u H',callV (s71 (dy (m+1)) n).S (dy (m+1)) (edF ed K V) [v] H=some (.tuple [u, .int .i64 (((edL ed l).2:Nat):Int)],H')/\callV (s52 (dy (m+1)) n).S (dy (m+1)) (edF ed K V) [v] H=some (.tuple [u, .int .i64 (((edL ed l).2:Nat):Int)],H')/\Prs H H'/\wD H.next H' u (edL ed l).1:=by
 obtain⟨u,H',e,p,w⟩:=zIg m hm hk hv hw hz ho hb;refine⟨u,H', ?_, ?_,p,w⟩
 ·cases ed with
  | put k x=>exact e
  | del k=>exact e
 ·cases ed with
  | put k x=>exact e
  | del k=>exact e
def zCR (Bd Bt Be Bk Bf Bc:Nat):AV:= .func 71 [] [.ptr Bd 0, .ptr Bt 0, .ptr Be 0, .ptr Bk 0, .ptr Bf 0, .ptr Bc 0]
structure Cl (H0 H:AH)(At Ac K V:Nat)(ed:Ed)(Bd Bt Be Bk Bf Bc d:Nat):Prop where
 bd:Box H Bd (.int .i64 (d:Nat))
 bt:Box H Bt (.ptr At 0)
 be:Box H Be (edF ed K V)
 bk:Box H Bk (S ed.key)
 bf:Box H Bf (zCR Bd Bt Be Bk Bf Bc)
 bc:Box H Bc (.ptr Ac 0)
 eb:edB H0 ed K V
 fr:H0.next<=Bd
 n1:Bt≠Bd
 n2:Be≠Bd
 n3:Bk≠Bd
 n4:Bf≠Bd
 n5:Bc≠Bd
theorem _root_.Go.Eng.Box.nchg {H0 H:AH}{At Ac F:Nat}{fes:List (AV×AV)}{f:PN}{g v:AV}{gl:List Ptr}{last0 last A:Nat}(h:Box H A v)(ch:Ch H0 H At Ac F fes f g gl last0 last): ¬chg Ac F g A:=fun hc=>by
 obtain⟨e,h⟩:=h;rcases hc with rfl | rfl | hc
 ·rw[ch.gC]at h;simp at h
 ·rw[ch.gF]at h;cases h
 ·rw[ch.gg.get hc]at h;simp at h
theorem Cl.keep {H0 H H':AH}{At Ac F K V:Nat}{ed:Ed}{Bd Bt Be Bk Bf Bc d:Nat}{fes:List (AV×AV)}{f:PN}{g:AV}{gl:List Ptr}{last0 last:Nat}(h:Cl H0 H At Ac K V ed Bd Bt Be Bk Bf Bc d)(ch:Ch H0 H At Ac F fes f g gl last0 last)(s:Stp (chg Ac F g) H H'):Cl H0 H' At Ac K V ed Bd Bt Be Bk Bf Bc d:=
 ⟨h.bd.mono ch.prs.ok s (h.bd.nchg ch),h.bt.mono ch.prs.ok s (h.bt.nchg ch),h.be.mono ch.prs.ok s (h.be.nchg ch),h.bk.mono ch.prs.ok s (h.bk.nchg ch),h.bf.mono ch.prs.ok s (h.bf.nchg ch),h.bc.mono ch.prs.ok s (h.bc.nchg ch),h.eb,h.fr,h.n1,h.n2,h.n3,h.n4,h.n5⟩
theorem Cl.prs {H0 H H':AH}{At Ac K V:Nat}{ed:Ed}{Bd Bt Be Bk Bf Bc d:Nat}(h:Cl H0 H At Ac K V ed Bd Bt Be Bk Bf Bc d)(hk:H.ok)(s:Prs H H'):Cl H0 H' At Ac K V ed Bd Bt Be Bk Bf Bc d:=
 ⟨h.bd.mono hk s (fun x=>x),h.bt.mono hk s (fun x=>x),h.be.mono hk s (fun x=>x),h.bk.mono hk s (fun x=>x),h.bf.mono hk s (fun x=>x),h.bc.mono hk s (fun x=>x),h.eb,h.fr,h.n1,h.n2,h.n3,h.n4,h.n5⟩
theorem Cl.deeper {H0 H:AH}{At Ac F K V:Nat}{ed:Ed}{Bd Bt Be Bk Bf Bc d:Nat}{fes:List (AV×AV)}{f:PN}{g:AV}{gl:List Ptr}{last0 last:Nat}(h:Cl H0 H At Ac K V ed Bd Bt Be Bk Bf Bc d)(ch:Ch H0 H At Ac F fes f g gl last0 last):
  ∃H',stN 1 (.ptr Bd 0) (.int .i64 ((d+1:Nat):Int)) H=some (qN,H')/\Cl H0 H' At Ac K V ed Bd Bt Be Bk Bf Bc (d+1)/\Ch H0 H' At Ac F fes f g gl last0 last/\Stp (fun B=>B=Bd) H H':=by
 obtain⟨H',e,b,s⟩:=h.bd.st ch.prs.ok (x:= .int .i64 ((d+1:Nat):Int)) rfl;have hn:=h.bd.nchg ch;obtain⟨e1,hg⟩:=h.bd;refine⟨H',e,⟨b,h.bt.mono ch.prs.ok s h.n1,h.be.mono ch.prs.ok s h.n2,h.bk.mono ch.prs.ok s h.n3,h.bf.mono ch.prs.ok s h.n4,h.bc.mono ch.prs.ok s h.n5,h.eb,h.fr,h.n1,h.n2,h.n3,h.n4,h.n5⟩, ?_,s⟩;exact ch.other s (fun e=>hn (.inl e.symm)) (fun e=>hn (.inr (.inl e.symm))) (fun B hB e=>hn (.inr (.inr (e▸hB)))) (fun kv hkv B hB e=>by
  subst e;obtain⟨nd2,hn2⟩:=ch.pf.mem kv hkv;exact hn2.nblk hg (.inl ⟨_,_,_,_,rfl,fun _ _ e=>by cases e⟩) hB) (fun B hB=>by rw[hB];exact h.fr)
theorem uQ {nd:Nd.Node}{ks:List Str}(hl:nd.leaf=false)(hk:nd.keys=ks)(key:Str):Nd.whereN nd key=y7 ks key:=by
 simp only[Nd.whereN,y7,hl,hk,Bool.not_false,Bool.true_and]
theorem gY: ∀ {n last:Nat} {p:Ptr},p∈pps last n-> ∃j,p=pp j/\last<j/\j<=last+n
 | 0,_,_,h=>by simp[pps]at h
 | n+1,last,p,h=>by
  rcases List.mem_cons.1 h with rfl | h
  ·exact⟨last+1,rfl,by omega,by omega⟩
  ·obtain⟨j,e,h1,h2⟩:=gY h;exact⟨j,e,by omega,by omega⟩
theorem QE: ∀(n last:Nat),(pps last n).Nodup
 | 0,_=>by simp[pps]
 | n+1,last=>by
  rw[pps,List.nodup_cons];refine⟨fun h=> ?_,QE n (last+1)⟩;obtain⟨j,e,h1,_⟩:=gY h;have:=aU e;omega
def zLN (H0 H H':AH)(At Ac F K V:Nat)(ed:Ed)(B1 B2 B3 B4 B5 B6 d:Nat)(q:PN)(f:PN)(g g':AV)(gl:List Ptr)(last0 last:Nat)(h:Nat)(lo hi:Bd)(t:Bt.Tr h)(S:List Ptr)(p:Ptr)(u:AV)(c':Kvs):Prop:=
 ∃fes' f' gl' last' d' nd' S' G R Fr,∃t':Bt.Tr h,Ch H0 H' At Ac F fes' f' g' gl' last0 last'/\Cl H0 H' At Ac K V ed B1 B2 B3 B4 B5 B6 d'/\k7 H' g' u nd'/\jG (Qf q f') h nd' t' S'/\WX h lo hi t'/\con h t'=c'/\(0<h->YV h t<=YV h t'+1)/\gl'=gl++G/\G.length<=2*(h+1)/\
  last<=last'/\last'<=last+6*h/\d'<=d+h+1/\S'.Perm (Fr++R)/\(p::S).Perm (G++R)/\Fr.Nodup/\(∀p∈Fr,∃j,p=pp j/\last<j/\j<=last')/\(∀p nd,Qf q f p=some nd->Qf q f' p=some nd)/\ ∀B,Blk g' B->Blk g B\/H.next<=B
theorem zDo (D:Dyn)(n:Nat){H0 H:AH}{At Ac F K V:Nat}{ed:Ed}{B1 B2 B3 B4 B5 B6 d A7 A8 A10 e7:Nat}{fes:List (AV×AV)}{f:PN}{g:AV}{gl:List Ptr}{last0 last:Nat}{lu:List AV}{nd:Nd.Node}{p:Ptr}
  (ch:Ch H0 H At Ac F fes f g gl last0 last) (cl:Cl H0 H At Ac K V ed B1 B2 B3 B4 B5 B6 d) (g7:H.h.get A7=some (.cells (y5 p) e7 1 false)) (g8:H.h.get A8=some (.cells [.bool false, .nilSlice, .nilSlice, .nilSlice] 111 1 false)) (g10:H.h.get A10=some (.cells lu 111 1 false))
  (hu:k7 H g (.agg lu) nd) (h8:H0.next<=A8) (h8c:A8≠Ac) (h7c:A7≠Ac) (h10c:A10≠Ac) (hl:gl.length+1<=last+1000) (hb:last<=900000000):
  ∃g' H',UM D n [.ptr B6 0, .ptr A7 0, .ptr A8 0, .ptr A10 0, .int .i64 ((0:Nat):Int)] H=some (.ret (.tuple [.agg lu, .int .i64 ((0:Nat):Int)]),H')/\Ch H0 H' At Ac F fes f g' (gl++[p]) last0 last/\Cl H0 H' At Ac K V ed B1 B2 B3 B4 B5 B6 d/\k7 H' g' (.agg lu) nd/\
   Stp (fun B=>chg Ac F g B\/B=A8) H H'/\ ∀B,Blk g' B->Blk g B\/H.next<=B:=by
 obtain⟨lul,luc⟩:lu.length=4/\qP lu=true:=by
  obtain⟨_,_,a,b⟩:=dG hu.1;exact⟨a,b⟩
 obtain⟨g',H1,e1,ch1,a1⟩:=zF1 D n ch p hl hb;have np: ∀ {A:Nat} {l:List AV} {e:Nat},H.h.get A=some (.cells l e 1 false)->A≠Ac-> ¬chg Ac F g A:=fun {A l e} hg hne hc=>by
  rcases hc with e | e | e
  ·exact hne e
  ·rw[e,ch.gF]at hg;cases hg
  ·rw[ch.gg.get e]at hg;simp at hg
 have lt: ∀ {A:Nat} {l:List AV} {e:Nat},H.h.get A=some (.cells l e 1 false)->A<H.next:=fun hg=>ch.prs.ok.lt hg
 have g81:H1.h.get A8=some (.cells [.bool false, .nilSlice, .nilSlice, .nilSlice] 111 1 false):=by rw[a1.1.keep _ (lt g8) (np g8 h8c)];exact g8
 have g101:H1.h.get A10=some (.cells lu 111 1 false):=by rw[a1.1.keep _ (lt g10) (np g10 h10c)];exact g10
 have hu1:=ch.next hu a1
 have cl1:=cl.keep ch a1.1;obtain⟨H2,e2,g82,s2,n2⟩:=qX ch1.prs.ok g81 (l':=lu) lul luc;have e2':stN 4 (.ptr A8 0) (.agg lu) H1=some (qN,H2):=e2;have ch2:=ch1.stb g81 s2 h8 h8c;have nb: ∀ {A:Nat} {x:AV},Box H1 A x->(∀b,x≠ .bool b)->A≠A8:=fun {A x} hb hx e=>by
  obtain⟨_,hb⟩:=hb;rw[e,g81]at hb;simp at hb
 have cl2:Cl H0 H2 At Ac K V ed B1 B2 B3 B4 B5 B6 d:=by
  have m: ∀ {A:Nat} {x:AV},Box H1 A x->Box H2 A x:=fun {A x} hb=>hb.mono ch1.prs.ok s2 (fun e=>by
   obtain⟨_,hb⟩:=hb;rw[e,g81]at hb;simp at hb)
  exact⟨m cl1.bd,m cl1.bt,m cl1.be,m cl1.bk,m cl1.bf,m cl1.bc,cl1.eb,cl1.fr,cl1.n1,cl1.n2,cl1.n3,cl1.n4,cl1.n5⟩
 refine⟨g',H2, ?_,ch2,cl2,hu1.stb g81 s2,(a1.1.mono fun _ _ x=> .inl x).trans (s2.mono fun _ _ x=> .inr x),a1.2⟩;have t00: ¬(((0:Nat):Int)≠((0:Nat):Int)):=by omega
 simp(maxSteps:=999999)(disch:=omega) only[UM,eZ,t00,cl.bc.ld,qR g7,zK9,Option.map_some,e1,vL g101 lul,e2',vL g82 lul]
theorem zDp (D:Dyn)(n:Nat){H:AH}{A8 B6 e:Nat}(x y:AV)(hk:H.ok)(g8:H.h.get A8=some (.cells [.bool false, .nilSlice, .nilSlice, .nilSlice] 111 1 false))(he:e≠0):
  ∃H',UM D n [.ptr B6 0,x, .ptr A8 0,y, .int .i64 (e:Nat)] H=some (.ret (.tuple [.agg [.bool false, .nilSlice, .nilSlice, .nilSlice], .int .i64 (e:Nat)]),H')/\Stp (fun B=>B=A8) H H':=by
 obtain⟨H2,e2,g82,s2,n2⟩:=qX hk g8 (l':=[.bool false, .nilSlice, .nilSlice, .nilSlice]) rfl rfl;have e2':stN 4 (.ptr A8 0) (.agg [.bool false, .nilSlice, .nilSlice, .nilSlice]) H=some (qN,H2):=e2;refine⟨H2, ?_,s2⟩;have t00:((e:Nat):Int)≠((0:Nat):Int):=by omega
 simp(maxSteps:=999999)(disch:=omega) only[UM,eZ,t00,ne_eq,not_false_eq_true,fJ,e2',vL g82 rfl]
theorem zIF (M n B1 B2 B3 B4 B5 B6:Nat)(x:AV)(H:AH):callV (s71 (dy (M+1)) n).S (dy (M+1)) (zCR B1 B2 B3 B4 B5 B6) [x] H=f71 (dy M) M [x, .ptr B1 0, .ptr B2 0, .ptr B3 0, .ptr B4 0, .ptr B5 0, .ptr B6 0] H:=rfl
noncomputable def zLp (D:Dyn)(n:Nat)(x3 x4 x5 x6 x7 x8 x10:AV)(H:AH):Rs:=
 bV (fAd 0 x10) fun x31=>
 bV (ld1 x31 H) fun x32=>
 jn (cnd x32 (bV (ld1 x3 H) fun x34=>
 bV (ldN 4 x10 H) fun x35=>
 bR (callV (s71 D n).S D x34 [x35] H) fun x36 H=>
 bV (qL x36 0) fun x37=>
 bV (qL x36 1) fun x38=>
 bR (stN 4 x10 x37 H) fun _ H=>
 some (.norm [x6,x7,x8,x10,x38],H))
 (bV (ldN 4 x10 H) fun x39=>
 bV (ld1 x4 H) fun x40=>
 bR (f62 D n [x39,x40] H) fun x41 H=>
 bA (bxV 111 (.agg [(.bool false), .nilSlice, .nilSlice, .nilSlice])) H fun x13 H=>
 bV (ld1 x5 H) fun x43=>
 bV (fAd 3 x10) fun x44=>
 bV (ld1 x44 H) fun x45=>
 bV (jB 3 x45 x41) fun x47=>
 bV (ldN 3 x47 H) fun x48=>
 bR (callV (s71 D n).S D x43 [x48] H) fun x49 H=>
 bV (qL x49 0) fun x50=>
 bV (qL x49 1) fun x51=>
 bR (stN 4 x13 x50 H) fun _ H=>
 bV (qO .eql x51 (.int .i64 (.ofNat 0))) fun x53=>
 jn (cnd x53 (bV (ld1 x6 H) fun x55=>
 bV (ldN 4 x10 H) fun x56=>
 bV (ldN 4 x13 H) fun x58=>
 bR (f74 D n [x55,x56,x41,x58] H) fun x59 H=>
 bV (qL x59 0) fun x60=>
 bV (qL x59 1) fun x61=>
 bR (stN 4 x10 x60 H) fun _ H=>
 some (.norm [x6,x7,x8,x10,x61],H))
 (some (.norm [x6,x7,x8,x10,x51],H))) (zFk D n))) (UM D n)
theorem UU (D:Dyn)(n:Nat){H0 H:AH}{At Ac F M0 K V:Nat}{ed:Ed}{B1 B2 B3 B4 B5 B6 d s:Nat}{dk cch dr:AV}{root:Ptr}{es:List (AV×AV)}{q fr:PN}{fes:List (AV×AV)}{g:AV}{gl:List Ptr}{last0 last:Nat}{nd:Nd.Node}(ti:TI H0 At M0 dk cch root es q last0 dr)(hold: ∀kv∈es,∀B,xZ kv.2 B->B<H0.next)
  (ch:Ch H0 H At Ac F fes fr g gl last0 last) (cl:Cl H0 H At Ac K V ed B1 B2 B3 B4 B5 B6 d) (hs:qV s q=some nd) (hd:d+1<=8192):
  ∃lv A7 A8 A10 H6,f71 D n [.agg (y5 (pp s)), .ptr B1 0, .ptr B2 0, .ptr B3 0, .ptr B4 0, .ptr B5 0, .ptr B6 0] H=yP (zLp D n (.ptr B3 0) (.ptr B4 0) (.ptr B5 0) (.ptr B6 0) (.ptr A7 0) (.ptr A8 0) (.ptr A10 0) H6)/\
   Ch H0 H6 At Ac F fes fr g gl last0 last/\Cl H0 H6 At Ac K V ed B1 B2 B3 B4 B5 B6 (d+1)/\k7 H6 g (.agg lv) nd/\(∃r,lv= .bool nd.leaf::r/\lv.length=4/\qP lv=true)/\
   H6.h.get A7=some (.cells (y5 (pp s)) 65 1 false)/\H6.h.get A8=some (.cells [.bool false, .nilSlice, .nilSlice, .nilSlice] 111 1 false)/\H6.h.get A10=some (.cells lv 111 1 false)/\
   H.next<=A7/\H.next<=A8/\H.next<=A10/\A7≠A8/\A7≠A10/\A8≠A10/\Stp (fun B=>B=B1) H H6:=by
 obtain⟨H1,A7,b1,p1,g1,m1,n1⟩:=box ch.prs.ok (.cells (y5 (pp s)) 65 1 false);obtain⟨H2,A8,b2,p2,g2,m2,n2⟩:=box p1.ok (.cells [.bool false, .nilSlice, .nilSlice, .nilSlice] 111 1 false);have P2:=p1.trans p2;have ch2:=ch.step P2;have cl2:=cl.prs ch.prs.ok P2;obtain⟨H3,e3,cl3,ch3,s3⟩:=cl2.deeper ch2;have ti3:=ti.prs ch3.prs;have hmost:=zKH D n ti3;have N1:=p1.next;have N2:=p2.next;have N3:=s3.next
 have hB1:B1<H.next:=cl.bd.lt ch.prs.ok
 have g73:H3.h.get A7=some (.cells (y5 (pp s)) 65 1 false):=by rw[s3.keep _ (by omega) (by omega)];exact Prs.get p2 p1.ok g1
 have g83:H3.h.get A8=some (.cells [.bool false, .nilSlice, .nilSlice, .nilSlice] 111 1 false):=by rw[s3.keep _ (by omega) (by omega)];exact g2
 obtain⟨v,H4,e4,p4,hg4,kk,hmem⟩:=zA5 D n ti3 hs;obtain⟨lv,rfl,lvl,lvc⟩:=hg4.cells;obtain⟨H5,A10,b5,p5,g5,m5,n5⟩:=box p4.ok (.cells [.bool false, .nilSlice, .nilSlice, .nilSlice] 111 1 false);obtain⟨H6,e6,g6,s6,n6⟩:=qX p5.ok g5 (l':=lv) lvl lvc;have e6':stN 4 (.ptr A10 0) (.agg lv) H5=some (qN,H6):=e6;have N4:=p4.next;have N5:=p5.next
 have p36:Prs H3 H6:=(p4.trans p5).fresh s6 (fun B hB=>by omega);have ch6:=ch3.step p36;have hg6:yC H6 (.agg lv) nd:=(hg4.prs p5).stp s6 (fun B hB e=>by
  subst e;have:=hg4.lt hB;omega)
 have hA6:k7 H6 g (.agg lv) nd:=hg6.hand ch6 (fun B hB=>hold _ hmem B hB);obtain⟨r,hr1,hr2,hr3⟩:=dG hg6;refine⟨lv,A7,A8,A10,H6, ?_,ch6,cl3.prs ch3.prs.ok p36,hA6,⟨r,hr1,hr2,hr3⟩,Prs.get p36 ch3.prs.ok g73,Prs.get p36 ch3.prs.ok g83,g6,by omega,by omega,by omega,by omega,by omega,by omega,((P2.mono fun _ _ x=>x.elim).trans s3).trans (p36.mono fun _ _ x=>x.elim)⟩;have hd1:((d:Nat):Int)+((1:Nat):Int)=((d+1:Nat):Int):=by omega
 have hgt: ¬((8192+q.length:Nat):Int)< ((d+1:Nat):Int):=by omega
 have hav:aveq (.int .i64 ((d+1:Nat):Int)) (.int .i64 ((d+1:Nat):Int))=true:=by
  have:keq .i64 .i64=true:=by rw[kF];simp
  simp only[aveq,this,Bool.true_and,kG];simp
 have t00: ¬(((0:Nat):Int)≠((0:Nat):Int)):=by omega
 simp(maxSteps:=999999)(disch:=omega) only[f71,fG,zEA,bVs,bRs,show ∀(e:TypeId) (l:List AV),bxV e (.agg l)=some (.cells l e 1 false,fun A=> .ptr A 0)from fun _ _=>rfl,b1,b2,cl2.bd.ld,ZP,wrap_i64,Int.ofNat_eq_natCast,hd1,e3,cl3.bd.ld,cl3.bt.ld,hmost,(fun K=>j9 rfl hav: ∀K:Rs,chk (some (AV.int .i64 ((d+1:Nat):Int))) (.int .i64 ((d+1:Nat):Int)) K=K),zCb,hgt,decide_false,zCV,Bool.false_eq_true,if_false,qR g73,zK9,Option.map_some,e4,qL,nth,b5,e6',zC9,t00];rfl
theorem Cl.stb {H0 H H':AH}{At Ac K V A e:Nat}{ed:Ed}{B1 B2 B3 B4 B5 B6 d:Nat}{l:List AV}(h:Cl H0 H At Ac K V ed B1 B2 B3 B4 B5 B6 d)(hk:H.ok)(gA:H.h.get A=some (.cells l e 1 false))(hl:l.length=4)(s:Stp (fun B=>B=A) H H'):Cl H0 H' At Ac K V ed B1 B2 B3 B4 B5 B6 d:=by
 have m: ∀ {B:Nat} {x:AV},Box H B x->Box H' B x:=fun {B x} hb=>hb.mono hk s (fun e=>by
  obtain⟨_,hb⟩:=hb;rw[e,gA]at hb;simp only[z7,AObj.cells.injEq]at hb;rw[hb.1]at hl;simp at hl)
 exact⟨m h.bd,m h.bt,m h.be,m h.bk,m h.bf,m h.bc,h.eb,h.fr,h.n1,h.n2,h.n3,h.n4,h.n5⟩
theorem zLo {H0:AH}{At Ac F M0 K V:Nat}{ed:Ed}{B1 B2 B3 B4 B5 B6:Nat}{dk cch dr:AV}{root:Ptr}{es:List (AV×AV)}{q:PN}{last0:Nat}(ti:TI H0 At M0 dk cch root es q last0 dr)(hold: ∀kv∈es,∀B,xZ kv.2 B->B<H0.next)(hq: ∀s nd,qV s q=some nd->s<=last0)(ho:ed.ok):
  ∀(h M n:Nat),200000000+h<=M->200000000<=n-> ∀ {H:AH} {d s last:Nat} {fes:List (AV×AV)} {f:PN} {g:AV} {gl:List Ptr} {nd:Nd.Node} {t:Bt.Tr h} {S:List Ptr} {lo hi:Bd},
   Ch H0 H At Ac F fes f g gl last0 last->Cl H0 H At Ac K V ed B1 B2 B3 B4 B5 B6 d->qV s q=some nd->jG (Qf q []) h nd t S->Gen h lo hi t->jA h t<=500->(0<h->nd.keys≠[])->zEF lo ed.key->hiB hi ed.key->d+h+1<=8192->last+6*h<=600000000->gl.length+2*(h+1)<=last+1000->
   ∃u e g' H',f71 (dy (M+1)) n [.agg (y5 (pp s)), .ptr B1 0, .ptr B2 0, .ptr B3 0, .ptr B4 0, .ptr B5 0, .ptr B6 0] H=some (.tuple [u, .int .i64 ((e:Nat):Int)],H')/\Stp (fun B=>chg Ac F g B\/B=B1) H H'/\(∃l,u= .agg l/\l.length=4/\qP l=true)/\
    match ed.run (con h t)with
    | none=>e=5
    | some c'=>e=0/\zLN H0 H H' At Ac F K V ed B1 B2 B3 B4 B5 B6 d q f g g' gl last0 last h lo hi t S (pp s) u c':=by
 intro h
 induction h with
 | zero=>
  intro M n hM hn H d s last fes f g gl nd t S lo hi ch cl hs rn wg hz _ hlo hhi hd hb hgl;obtain⟨rfl,rfl⟩:=rn;obtain⟨lv,A7,A8,A10,H6,e6,ch6,cl6,hA6,⟨r,hr1,hr2,hr3⟩,g7,g8,g10,m7,m8,m10,n78,n710,n810,st6⟩:=UU (dy (M+1)) n ti hold ch cl hs (by omega);have N0:=ch.prs.next;have hAc:=ch.ltC;have N6:=st6.next
  have hz':jD (t:Kvs)<=10000:=by simp only[jA]at hz;omega
  obtain⟨u,H7,e7,_,p7,w7⟩:=zG1 M n (by omega) ch6.prs.ok hA6.1 wg hz' ho (cl6.eb.prs ti.ok ch6.prs);obtain⟨lu,rfl,lul,luc⟩:=w7.1.cells;have ch7:=ch6.step p7;have cl7:=cl6.prs ch6.prs.ok p7;have g107:=Prs.get p7 ch6.prs.ok g10;obtain⟨H8,e8,g108,s8,n8⟩:=qX p7.ok g107 (l':=lu) (by omega) luc;have e8':stN 4 (.ptr A10 0) (.agg lu) H7=some (qN,H8):=by rw[hr2]at e8;exact e8
  have cl8:=cl7.stb p7.ok g107 hr2 s8;have hu7:k7 H7 g (.agg lu) (edL ed t).1:=wD.hand ch6 (Nat.le_refl _) w7;rw[hr1]at g107;have ch8:=ch7.stb g107 s8 (by omega) (by omega);have hu8:=hu7.stb g107 s8;have N7:=p7.next;have N8:=s8.next
  have g78:H8.h.get A7=some (.cells (y5 (pp s)) 65 1 false):=by rw[s8.keep _ (by have:=ch6.prs.ok.lt g7;omega) (by omega)];exact Prs.get p7 ch6.prs.ok g7
  have g88:H8.h.get A8=some (.cells [.bool false, .nilSlice, .nilSlice, .nilSlice] 111 1 false):=by rw[s8.keep _ (by have:=ch6.prs.ok.lt g8;omega) (by omega)];exact Prs.get p7 ch6.prs.ok g8
  have S8:Stp (fun B=>chg Ac F g B\/B=B1) H H8:=⟨s8.ok,by omega,fun B hB hS=>by
   rw[s8.keep B (by omega) (by omega),p7.keep B (by omega) (fun x=>x),st6.keep B hB (fun e=>hS (.inr e))]⟩
  have t00: ¬(((0:Nat):Int)≠((0:Nat):Int)):=by omega
  have hlf:(qQ (t:Kvs)).leaf=true:=rfl;have run: ∀ {x:Option (AV×AH)} {code:Nat},(edL ed t).2=code->yP (UM (dy (M+1)) n [.ptr B6 0, .ptr A7 0, .ptr A8 0, .ptr A10 0, .int .i64 ((code:Nat):Int)] H8)=x->f71 (dy (M+1)) n [.agg (y5 (pp s)), .ptr B1 0, .ptr B2 0, .ptr B3 0, .ptr B4 0, .ptr B5 0, .ptr B6 0] H=x:=by
   intro x code hc hx;rw[hc]at e7;rw[e6];simp(maxSteps:=999999)(disch:=omega) only[zLp,eZ,qM g10,hr1,hlf,cl6.be.ld];simp(maxSteps:=999999)(disch:=omega) only[eZ,vL g10 hr2,e7,qL,nth,e8'];exact hx
  cases hr:ed.run t with
  | none=>
   have hel:edL ed t=(nd0,5):=by simp only[edL,hr]
   obtain⟨H9,e9,s9⟩:=zDp (dy (M+1)) n (B6:=B6) (.ptr A7 0) (.ptr A10 0) ch8.prs.ok g88 (e:=5) (by decide);refine⟨.agg [.bool false, .nilSlice, .nilSlice, .nilSlice],5,g,H9,run (by rw[hel]) (by rw[e9];rfl),⟨s9.ok,by have:=s9.next;omega,fun B hB hS=>by rw[s9.keep B (by omega) (by omega)];exact S8.keep B hB hS⟩,⟨_,rfl,rfl,rfl⟩, ?_⟩
   simp only[con,hr]
  | some l'=>
   have hel:edL ed t=(qQ l',0):=by simp only[edL,hr]
   rw[hel]at hu8;obtain⟨g',H9,e9,ch9,cl9,hu9,s9,b9⟩:=zDo (dy (M+1)) n ch8 cl8 g78 g88 g108 hu8 (by omega) (by omega) (by omega) (by omega) (by omega) (by omega);obtain⟨w1,w2⟩:=Ed.leaf wg hlo hhi ho hr;refine⟨.agg lu,0,g',H9,run (by rw[hel]) (by rw[e9];rfl),⟨s9.ok,by have:=s9.next;omega,fun B hB hS=> ?_⟩,⟨_,rfl,lul,luc⟩, ?_⟩
   ·rw[s9.keep B (by omega) (fun hx=>by
     rcases hx with hx | hx
     ·exact hS (.inl hx)
     ·omega)]
    exact S8.keep B hB hS
   ·simp only[con,hr];refine⟨trivial,_,_,_,_,_,_,[],[pp s],[],[],l',ch9,cl9,hu9,⟨rfl,rfl⟩,⟨w1,by simp only[jA]at hz;omega⟩,rfl,fun hh=>absurd hh (by omega),rfl,by simp,by omega,by omega,by omega,by simp,by simp,by simp,by simp,fun _ _ hp=>hp,fun B hB=> ?_⟩;rcases b9 B hB with e | e
    ·exact .inl e
    ·exact .inr (by omega)
 | succ h ih=>
  intro M n hM hn H d s last fes f g gl nd t S lo hi ch cl hs rn wg hz hne hlo hhi hd hb hgl;obtain⟨r1,r2,r3,r4⟩:=rn;obtain⟨w1,w2,w3⟩:=id wg;have hlen:=w3.len;have hklen:=r4.len;obtain⟨lv,A7,A8,A10,H6,e6,ch6,cl6,hA6,⟨r,hr1,hr2,hr3⟩,g7,g8,g10,m7,m8,m10,n78,n710,n810,st6⟩:=UU (dy (M+1)) n ti hold ch cl hs (by omega);have N0:=ch.prs.next;have hAc:=ch.ltC;have N6:=st6.next
  have hz0:jH t.1 t.2.length<=500:=hz;have hsm:small nd:=xJ (by
   have:Nd.size nd=jA (h+1) t:=jG.size (Q:=Qf q []) (S:=S) ⟨r1,r2,r3,r4⟩;rw[this];simp only[jA];omega)
  have hwN:Nd.whereN nd ed.key=y7 t.1 ed.key:=uQ r1 r2 _;have hile:y7 t.1 ed.key<=t.1.length:=vQ _ _;have hil:y7 t.1 ed.key<t.2.length:=by omega
  obtain⟨sA,sB⟩:=ZW (key:=ed.key) (ks:=t.1) (ts:=t.2) wg;have klo:=KN (lo:=lo) w2 hlo;have khi:=KO (hi:=hi) w2 hhi;generalize hidef:y7 t.1 ed.key=i at hwN hile hil sA sB klo khi;have htk:=zC hil;obtain⟨pk,ndk,Sa,Si,Sb,k1,k2,k3,k4,k5,k6⟩:=r4.at htk;obtain⟨sk,rfl,hsk⟩:=bL k2;have hsk:qV sk q=some ndk:=by
   rcases hsk with hsk | ⟨_,hsk⟩
   ·simp[qV]at hsk
   ·exact hsk
  have wk:=KB.at w3 htk;have kne:0<h->ndk.keys≠[]:=fun hh=>by
   cases h with
   | zero=>omega
   | succ h=>
    have:=QP wk;rw[k3.2.1];intro e;rw[e]at this;simp at this
  obtain⟨H7,e7,p7⟩:=fS (dy (M+1)) n hn ch6.prs.ok (key:=ed.key) hA6.1.node hsm;rw[hwN]at e7;obtain⟨H8,A13,b8,p8,g13,m13,n13⟩:=box p7.ok (.cells [.bool false, .nilSlice, .nilSlice, .nilSlice] 111 1 false);have P68:=p7.trans p8;have ch8:=ch6.step P68;have cl8:=cl6.prs ch6.prs.ok P68;have cl7:=cl6.prs ch6.prs.ok p7;have hA8:=hA6.prs P68;have g78:=Prs.get P68 ch6.prs.ok g7;have g88:=Prs.get P68 ch6.prs.ok g8;have g108:=Prs.get P68 ch6.prs.ok g10;obtain⟨ks,vs0,ps,hle,j1,j2,j3⟩:=id hA8.1;simp only[AV.agg.injEq]at hle;obtain⟨qk,ik,ik'⟩:=uO.at (l:=nd.kids) j3.row (i:=i) (by omega);have hkk:nd.kids[i]'(by omega)=pp sk:=by
   rw[zC (by omega)]at k1;exact Option.some.inj k1
  rw[hkk]at ik';have N7:=p7.next;have N8:=p8.next
  obtain⟨M',rfl⟩: ∃M',M=M'+1:=⟨M - 1,by omega⟩;obtain⟨u1,e1,g1,H9,e9,s9,⟨l1,rfl,l1l,l1c⟩,hout⟩:=ih M' (M'+1) (by omega) (by omega) ch8 cl8 hsk k3 wk.gen wk.sz kne klo khi (by omega) (by omega) (by omega);have ltA: ∀ {A:Nat} {o:AObj},H8.h.get A=some o->A<H8.next:=fun hg=>ch8.prs.ok.lt hg
  have np: ∀ {A:Nat} {l:List AV} {e:Nat},H8.h.get A=some (.cells l e 1 false)->l.length≠1->A≠Ac-> ¬(chg Ac F g A\/A=B1):=fun {A l e} hg hl hne hc=>by
   rcases hc with(e | e | e) | e
   ·exact hne e
   ·rw[e,ch8.gF]at hg;cases hg
   ·rw[ch8.gg.get e]at hg;simp at hg
   ·obtain⟨_,hb⟩:=cl8.bd;rw[e,hb]at hg;simp only[z7,AObj.cells.injEq]at hg;rw[<-hg.1]at hl;simp at hl
  have l10:lv.length≠1:=by omega
  have g79:H9.h.get A7=some (.cells (y5 (pp s)) 65 1 false):=by rw[s9.keep _ (ltA g78) (np g78 (by simp[y5]) (by omega))];exact g78
  have g89:H9.h.get A8=some (.cells [.bool false, .nilSlice, .nilSlice, .nilSlice] 111 1 false):=by rw[s9.keep _ (ltA g88) (np g88 (by simp) (by omega))];exact g88
  have g109:H9.h.get A10=some (.cells lv 111 1 false):=by rw[s9.keep _ (ltA g108) (np g108 l10 (by omega))];exact g108
  have g139:H9.h.get A13=some (.cells [.bool false, .nilSlice, .nilSlice, .nilSlice] 111 1 false):=by rw[s9.keep _ n13 (np g13 (by simp) (by omega))];exact g13
  obtain⟨H10,e10,g1310,s10,n10⟩:=qX s9.ok g139 (l':=l1) l1l l1c;have e10':stN 4 (.ptr A13 0) (.agg l1) H9=some (qN,H10):=e10;have N9:=s9.next;have N10:=s10.next
  have t7:=ltA g78;have t8:=ltA g88;have t10:=ltA g108;have a13:ch6.prs.ok.lt g7=ch6.prs.ok.lt g7:=rfl;have u7:=ch6.prs.ok.lt g7;have u8:=ch6.prs.ok.lt g8;have u10:=ch6.prs.ok.lt g10;have g710:H10.h.get A7=some (.cells (y5 (pp s)) 65 1 false):=by rw[s10.keep _ (by omega) (by omega)];exact g79
  have g810:H10.h.get A8=some (.cells [.bool false, .nilSlice, .nilSlice, .nilSlice] 111 1 false):=by rw[s10.keep _ (by omega) (by omega)];exact g89
  have g1010:H10.h.get A10=some (.cells lv 111 1 false):=by rw[s10.keep _ (by omega) (by omega)];exact g109
  have S10:Stp (fun B=>chg Ac F g B\/B=B1) H H10:=⟨s10.ok,by omega,fun B hB hS=>by
   rw[s10.keep B (by omega) (by omega),s9.keep B (by omega) hS,P68.keep B (by omega) (fun x=>x),st6.keep B hB (fun e=>hS (.inr e))]⟩
  have hrun:=Ed.run_mid ed (A:=(t.2.take i).flatMap (con h)) (C:=con h t.2[i]) (B:=(t.2.drop (i+1)).flatMap (con h)) sA sB;have hcon:con (h+1) t=(t.2.take i).flatMap (con h)++con h t.2[i]++(t.2.drop (i+1)).flatMap (con h):=by
   have:t.2=t.2.take i++[t.2[i]]++t.2.drop (i+1):=zH8 htk;simp only[con]
   conv=>lhs;rw[this]
   simp only[qD,zP,List.flatMap_nil,List.append_nil]
  rw[<-hcon]at hrun;have t00: ¬(((0:Nat):Int)≠((0:Nat):Int)):=by omega
  have hps:lv=[.bool nd.leaf,ks,vs0,ps]:=hle;have head: ∀ {x:Option (AV×AH)},yP (jn (bV (qO .eql (.int .i64 ((e1:Nat):Int)) (.int .i64 (.ofNat 0))) fun x53=>jn (cnd x53 (bV (ld1 (.ptr B6 0) H10) fun x55=>bV (ldN 4 (.ptr A10 0) H10) fun x56=>bV (ldN 4 (.ptr A13 0) H10) fun x58=>bR (f74 (dy (M'+1+1)) n [x55,x56, .int .i64 (i:Nat),x58] H10) fun x59 H=>
    bV (qL x59 0) fun x60=>bV (qL x59 1) fun x61=>bR (stN 4 (.ptr A10 0) x60 H) fun _ H=>some (.norm [.ptr B6 0, .ptr A7 0, .ptr A8 0, .ptr A10 0,x61],H)) (some (.norm [.ptr B6 0, .ptr A7 0, .ptr A8 0, .ptr A10 0, .int .i64 ((e1:Nat):Int)],H10))) (zFk (dy (M'+1+1)) n)) (UM (dy (M'+1+1)) n))=x->
    f71 (dy (M'+1+1)) n [.agg (y5 (pp s)), .ptr B1 0, .ptr B2 0, .ptr B3 0, .ptr B4 0, .ptr B5 0, .ptr B6 0] H=x:=by
   intro x hx;rw[e6,<-hx];have h0:ld1 (.ptr A10 0) H6=some (.bool false):=by rw[qM g10,hps,r1];rfl
   have h3:ld1 (.ptr A10 3) H8=some ps:=by rw[qM g108,hps];rfl
   simp(maxSteps:=999999)(disch:=omega) only[zLp,eZ,h0,vL g10 hr2,cl6.bk.ld,e7,b8,cl8.bf.ld,h3,ik,ik',zIF,e9,qL,nth,e10']
  cases hr:ed.run (con h t.2[i])with
  | none=>
   rw[hr]at hout hrun;simp only[Option.map_none]at hrun;have hout:e1=5:=hout;subst hout;obtain⟨H11,e11,s11⟩:=zDp (dy (M'+1+1)) n (B6:=B6) (.ptr A7 0) (.ptr A10 0) s10.ok g810 (e:=5) (by decide);have h50: ¬((5:Nat):Int)=((0:Nat):Int):=by omega
   refine⟨.agg [.bool false, .nilSlice, .nilSlice, .nilSlice],5,g,H11,head ?_,⟨s11.ok,by have:=s11.next;omega,fun B hB hS=>by rw[s11.keep B (by omega) (by omega)];exact S10.keep B hB hS⟩,⟨_,rfl,rfl,rfl⟩, ?_⟩
   ·simp(maxSteps:=999999)(disch:=omega) only[eZ,h50,zFk,e11]
   ·rw[hrun]
  | some c1=>
   rw[hr]at hout hrun;simp only[Option.map_some]at hrun;obtain⟨rfl,fes1,f1,gl1,last1,d1,nd1,S1,G1,R1,Fr1,t1,ch9,cl9,hA9,rn9,wx9,con9,nk9,hgl1,hG1,hl1,hl1',hd1,pm1,pm1',nd1',fr1,more1,bg1⟩:=hout;have ch10:=ch9.stb g139 s10 (by omega) (by omega);have cl10:=cl9.stb s9.ok g139 rfl s10;have hk10:=hA9.stb g139 s10;have hv9:k7 H9 g1 (.agg lv) nd:=⟨hA8.1.stp s9 (fun B hB hc=>by
    rcases hc with(e | e | e) | e
    ·subst e;exact hA8.1.nblk ch8.gC (.inl ⟨_,_,_,_,rfl,fun _ _ e=>by cases e⟩) hB
    ·subst e;exact hA8.1.nblk ch8.gF (.inr (.inl ⟨_,_,rfl⟩)) hB
    ·exact hA8.2 B hB e
    ·obtain⟨_,hb⟩:=cl8.bd;subst e;exact hA8.1.nblk hb (.inl ⟨_,_,_,_,rfl,fun _ _ e=>by cases e⟩) hB),fun B hB hg=>by
    rcases bg1 B hg with e | e
    ·exact hA8.2 B hB e
    ·have:=hA8.1.lt hB;omega⟩
   have hv10:=hv9.stb g139 s10;have kne':0<h->nd1.keys≠[]:=fun hh=>by
    have hnk:=nk9 hh
    cases h with
    | zero=>omega
    | succ h=>
     have:=QP wk;simp only[YV]at hnk;rw[rn9.2.1];intro e;rw[e]at hnk;simp at hnk;omega
   have hG1l:gl1.length=gl.length+G1.length:=by rw[hgl1,zI]
   obtain⟨u2,H11,fes2,f2,g2,gl2,last2,nd2,t2,S2,G2,R2,e11,ch11,adv11,hu11,rn11,w11,con11,z11,k11,l11,l12,hgl2,pm2,pm2',more2,hG2⟩:=zCA (dy (M'+1+1)) n hn ti hold hq ch10 hv10 hk10 r1 r2 r3 hklen wg (by rw[<-r2];exact hne (by omega)) hz0 htk k4 k5 rn9 wx9 kne' (by omega) (by omega);obtain⟨l2,rfl,l2l,l2c⟩:=hu11.1.cells;have np10: ∀ {A:Nat} {l:List AV} {e:Nat},H10.h.get A=some (.cells l e 1 false)->A≠Ac-> ¬chg Ac F g1 A:=fun {A l e} hg hne hc=>by
    rcases hc with e | e | e
    ·exact hne e
    ·rw[e,ch10.gF]at hg;cases hg
    ·rw[ch10.gg.get e]at hg;simp at hg
   have N11:=adv11.1.next
   have g711:H11.h.get A7=some (.cells (y5 (pp s)) 65 1 false):=by rw[adv11.1.keep _ (by omega) (np10 g710 (by omega))];exact g710
   have g811:H11.h.get A8=some (.cells [.bool false, .nilSlice, .nilSlice, .nilSlice] 111 1 false):=by rw[adv11.1.keep _ (by omega) (np10 g810 (by omega))];exact g810
   have g1011:H11.h.get A10=some (.cells lv 111 1 false):=by rw[adv11.1.keep _ (by omega) (np10 g1010 (by omega))];exact g1010
   obtain⟨H12,e12,g1012,s12,n12⟩:=qX ch11.prs.ok g1011 (l':=l2) (by omega) l2c;have e12':stN 4 (.ptr A10 0) (.agg l2) H11=some (qN,H12):=by rw[hr2]at e12;exact e12
   have cl11:=cl10.keep ch10 adv11.1;have cl12:=cl11.stb ch11.prs.ok g1011 hr2 s12;have g1011':=g1011;rw[hr1]at g1011';have ch12:=ch11.stb g1011' s12 (by omega) (by omega);have hu12:=hu11.stb g1011' s12;have N12:=s12.next
   have g712:H12.h.get A7=some (.cells (y5 (pp s)) 65 1 false):=by rw[s12.keep _ (by omega) (by omega)];exact g711
   have g812:H12.h.get A8=some (.cells [.bool false, .nilSlice, .nilSlice, .nilSlice] 111 1 false):=by rw[s12.keep _ (by omega) (by omega)];exact g811
   have hG2l:gl2.length=gl1.length+G2.length:=by rw[hgl2,zI]
   obtain⟨g3,H13,e13,ch13,cl13,hu13,s13,b13⟩:=zDo (dy (M'+1+1)) n ch12 cl12 g712 g812 g1012 hu12 (by omega) (by omega) (by omega) (by omega) (by omega) (by omega);have g2old: ∀B,Blk g2 B->Blk g B\/H8.next<=B:=fun B hB=>by
    rcases adv11.2 B hB with e | e
    ·exact bg1 B e
    ·exact .inr (by omega)
   refine⟨.agg l2,0,g3,H13,head ?_,⟨s13.ok,by have:=s13.next;omega,fun B hB hS=> ?_⟩,⟨_,rfl,l2l,l2c⟩, ?_⟩
   ·simp(maxSteps:=999999)(disch:=omega) only[eZ,cl10.bc.ld,vL g1010 hr2,vL g1310 l1l,e11,qL,nth,e12',zFk,e13]
   ·rw[s13.keep B (by omega) (fun hx=>by
     rcases hx with(e | e | e) | e
     ·exact hS (.inl (.inl e))
     ·exact hS (.inl (.inr (.inl e)))
     ·rcases g2old B e with e | e
      ·exact hS (.inl (.inr (.inr e)))
      ·omega
     ·omega),s12.keep B (by omega) (by omega),adv11.1.keep B (by omega) (fun hx=>by
     rcases hx with e | e | e
     ·exact hS (.inl (.inl e))
     ·exact hS (.inl (.inr (.inl e)))
     ·rcases bg1 B e with e | e
      ·exact hS (.inl (.inr (.inr e)))
      ·omega)]
    exact S10.keep B hB hS
   ·rw[hrun];refine⟨rfl,fes2,f2,gl2++[pp s],last2,d1,nd2,S2,G1++G2++[pp s],R2++R1,pps last1 (last2 - last1)++Fr1,t2,ch13,cl13,hu13,rn11,⟨w11,by omega⟩,by rw[con11,con9],fun _=>by simp only[YV];exact k11,by rw[hgl2,hgl1];simp,by simp;omega,by omega,by omega,by omega, ?_, ?_, ?_, ?_,fun p nd hp=>more2 p nd (more1 p nd hp),fun B hB=> ?_⟩
    ·rw[List.perm_iff_count]at pm1 pm2⊢;intro a;have x1:=pm1 a;have x2:=pm2 a;simp only[List.count_append]at x1 x2⊢;omega
    ·rw[k6];rw[List.perm_iff_count]at pm1' pm2'⊢;intro a;have x1:=pm1' a;have x2:=pm2' a;simp only[List.count_append,List.count_cons,List.count_nil]at x1 x2⊢;omega
    ·rw[List.nodup_append];refine⟨QE _ _,nd1',fun a ha b hb e=> ?_⟩;obtain⟨j,rfl,q1,q2⟩:=gY ha;obtain⟨j',e',q3,q4⟩:=fr1 b hb;rw[e']at e;have:=aU e;omega
    ·intro p hp;rcases List.mem_append.1 hp with hp | hp
     ·obtain⟨j,rfl,q1,q2⟩:=gY hp;exact⟨j,rfl,by omega,by omega⟩
     ·obtain⟨j,rfl,q1,q2⟩:=fr1 p hp;exact⟨j,rfl,by omega,by omega⟩
    ·rcases b13 B hB with e | e
     ·rcases g2old B e with e | e
      ·exact .inl e
      ·exact .inr (by omega)
     ·exact .inr (by omega)
end Go.Eng.Sh
end
section
namespace Go.Eng
theorem zBy {t:T AObj} : ∀(n A:Nat),(∀C,A<=C->t.get C=none)->zCL t A n=true
 | 0,_,_=>rfl
 | n+1,A,h=>by
  simp only[zCL,h A (Nat.le_refl _),yE];exact zBy n _ fun C hC=>h C (by simp only[Nat.succ_eq_add_one]at hC;omega)
theorem zAN: ∀ {l e:List (AV×AV)},(∀x∈l,vW x.1 e=none)->l.Pairwise (fun a b=>aveq b.1 a.1=false)->J4 e l=e++l
 | [],e,_,_=>by simp[J4]
 | x::l,e,h,hp=>by
  rw[List.pairwise_cons]at hp;have h1:ups e x=e++[x]:=by
   obtain⟨k,v⟩:=x;simp only[ups,Sh.setA_none (h (k,v) (zB ..))]
  have fa: ∀ {k:AV} {a b:List (AV×AV)},vW k a=none->vW k b=none->vW k (a++b)=none:=by
   intro k a b
   induction a with
   | nil=>intro _ h;exact h
   | cons c a ih=>
    intro h1 h2;simp only[List.cons_append,vW]at h1⊢
    cases e:aveq k c.1 with
    | true=>rw[e]at h1;cases h1
    | false=>rw[e]at h1;simp only[cond_false]at h1⊢;exact ih h1 h2
  simp only[J4,h1];rw[zAN (l:=l) (fun y hy=>fa (h y (zA _ hy)) (by
   simp only[vW,hp.1 y hy,cond_false])) hp.2]
  simp
end Go.Eng
namespace Go.Eng.Sh
open Go.Nd (Ptr yH)
open Go.Bt
def gJ:PN->List Ptr->PN
 | q,[]=>q
 | q,p::gl=>gJ (zBZ p.sum.toNat q) gl
theorem K2: ∀(gl:List Ptr) (q:PN) (p:Ptr),gJ q (gl++[p])=zBZ p.sum.toNat (gJ q gl)
 | [],_,_=>rfl
 | _::gl,q,p=>by simp only[List.cons_append,gJ,K2 gl]
theorem zBY (s:Nat): ∀q:PN,(zBZ s q).length<=q.length
 | []=>Nat.le_refl _
 | (t,n)::q=>by
  simp only[zBZ];split
  ·simp
  ·have:=zBY s q;simp;omega
theorem zBX (s:Nat): ∀ {q:PN} {x:Nat×Nd.Node},x∈zBZ s q->x∈q
 | [],_,h=>h
 | (t,n)::q,x,h=>by
  simp only[zBZ]at h;split at h
  ·exact zA _ h
  ·rcases List.mem_cons.1 h with h | h
   ·exact h▸zB ..
   ·exact zA _ (zBX s h)
theorem U5 {s t:Nat}(h:s≠t): ∀q:PN,qV s (zBZ t q)=qV s q
 | []=>rfl
 | (a,n)::q=>by
  simp only[zBZ];split
  ·rename_i e;simp only[qV];rw[if_neg (fun e2=>h (e2.symm.trans e))]
  ·simp only[qV,U5 h q]
theorem YA {s:Nat} : ∀ {q:PN},qV s q=none->zBZ s q=q
 | [],_=>rfl
 | (a,n)::q,h=>by
  simp only[qV]at h;split at h
  ·cases h
  ·rename_i e;simp only[zBZ,if_neg e,YA h]
theorem Y8 {H:AH}{s:Nat} : ∀ {es:List (AV×AV)} {q:PN},v8 H es q->qV s q=none->zGb (.int .u64 (s:Nat)) es=none
 | [],[],_,_=>rfl
 | (k,v)::es,(t,nd)::q,h,hl=>by
  obtain⟨⟨rfl,_⟩,h2⟩:=h;simp only[qV]at hl;split at hl
  ·cases hl
  ·rename_i e;have e': ¬s=t:=fun h=>e h.symm
   simp only[zGb,zIM,e',decide_false,cond_false,Y8 h2 hl]
 | [],_::_,h,_=>h.elim
 | _::_,[],h,_=>h.elim
theorem K3 {s:Nat} : ∀ {gl:List Ptr} {q:PN},(∀p∈gl,s≠p.sum.toNat)->qV s (gJ q gl)=qV s q
 | [],_,_=>rfl
 | p::gl,q,h=>by
  rw[gJ,K3 fun p hp=>h p (zA _ hp),U5 (h p (zB ..))]
theorem dT: ∀ {gl:List Ptr} {q:PN} {x:Nat×Nd.Node},x∈gJ q gl->x∈q
 | [],_,_,h=>h
 | _::gl,_,_,h=>zBX _ (dT (gl:=gl) h)
theorem dU: ∀(gl:List Ptr) (q:PN),(gJ q gl).length<=q.length
 | [],_=>Nat.le_refl _
 | _::gl,q=>Nat.le_trans (dU gl _) (zBY _ q)
theorem wN {s:Nat}{nd:Nd.Node} : ∀ {q:PN},qV s q=some nd->(s,nd)∈q
 | [],h=>by cases h
 | (t,n)::q,h=>by
  simp only[qV]at h;split at h
  ·rename_i e;subst e;simp only[z7]at h;subst h;exact zB ..
  ·exact zA _ (wN h)
theorem v8.keys {H:AH} : ∀ {es:List (AV×AV)} {q:PN},v8 H es q-> ∀kv∈es,∃s,kv.1= .int .u64 ((s:Nat):Int)/\s∈q.map Prod.fst
 | [],[],_,_,h=>by simp at h
 | (k,v)::es,(t,nd)::q,hq,kv,hk=>by
  rcases List.mem_cons.1 hk with rfl | hk
  ·exact⟨t,hq.1.1,by simp⟩
  ·obtain⟨s,h1,h2⟩:=v8.keys hq.2 kv hk;exact⟨s,h1,zA _ h2⟩
 | [],_::_,h,_,_=>h.elim
 | _::_,[],h,_,_=>h.elim
theorem v8.dist {H:AH} : ∀ {es:List (AV×AV)} {q:PN},v8 H es q->(q.map Prod.fst).Nodup->es.Pairwise (fun a b=>aveq b.1 a.1=false)
 | [],[],_,_=>List.Pairwise.nil
 | (k,v)::es,(t,nd)::q,hq,hd=>by
  simp only[List.map_cons,List.nodup_cons]at hd;rw[List.pairwise_cons];refine⟨fun kv hkv=> ?_,v8.dist hq.2 hd.2⟩;obtain⟨s,h1,h2⟩:=v8.keys hq.2 kv hkv;rw[h1,hq.1.1,zIM,decide_eq_false_iff_not];intro e;subst e;exact hd.1 h2
 | [],_::_,h,_=>h.elim
 | _::_,[],h,_=>h.elim
theorem v8.append {H:AH}{es':List (AV×AV)}{q':PN}(h':v8 H es' q'): ∀ {es:List (AV×AV)} {q:PN},v8 H es q->v8 H (es++es') (q++q')
 | [],[],_=>h'
 | _::es,_::q,h=>⟨h.1,v8.append h' h.2⟩
 | [],_::_,h=>h.elim
 | _::_,[],h=>h.elim
theorem v8.isAg {H:AH}{es:List (AV×AV)}{q:PN}(h:v8 H es q):es.all (fun e=>keyOk [10] e.1&&Eng.isAg 4 e.2)=true:=by
 rw[List.all_eq_true];intro kv hkv;obtain⟨s,h1,_⟩:=h.keys kv hkv;obtain⟨nd,hn⟩:=h.mem kv hkv;obtain⟨l,h2,h3,h4⟩:=hn.cells;rw[h1,h2,zMN,Bool.true_and];simp only[Eng.isAg,y9,h3,h4,Nat.beq_refl,Bool.and_self]
noncomputable def AH.putB (H:AH)(A:Nat)(o:AObj)(k:Nat):AH:=⟨(H.put A o).h,H.next+k⟩
theorem zHo {H:AH}(hk:H.ok){A:Nat}(hA:A<H.next)(o:AObj)(k:Nat):Stp (fun B=>B=A) H (AH.putB H A o k)/\(AH.putB H A o k).h.get A=some o:=by
 have hg: ∀B,(AH.putB H A o k).h.get B=if B=A then some o else H.h.get B:=fun B=>AH.put_get H A o B
 refine⟨⟨fun B hB=> ?_, ?_,fun B _ hS=> ?_⟩, ?_⟩
 ·have hB:H.next+k<=B:=hB
  rw[hg,if_neg (by omega)];exact hk B (by omega)
 ·show H.next<=H.next+k;omega
 ·rw[hg,if_neg hS]
 ·rw[hg,if_pos rfl]
theorem zGY {H:AH}(hk:H.ok){F M:Nat}{fes es:List (AV×AV)}{f:PN}(hF:H.h.get F=some (.map [10] fes))(hM:H.h.get M=some (.map [10] es))(hne:F≠M)(hp:v8 H fes f):
  zK0 [10] 1 (isAg 4) (.map F) (.map M) H=some (AH.putB H M (.map [10] (J4 es fes)) (1+1*fes.length)):=by
 have hb:Nat.beq F M=false:=by rw[Bool.eq_false_iff];intro h;exact hne (Nat.eq_of_beq_eq_true h)
 simp only[zK0,hF,hM,show YS [10] [10]=true from rfl,hb,hp.isAg,Bool.not_false,Bool.and_self,cond_true,yE,zBy _ _ hk,jW,AH.putB,AH.put_next,Nat.add_assoc]
theorem zNS {H:AH}{M s:Nat}{es:List (AV×AV)}{q:PN}(hk:H.ok)(hM:H.h.get M=some (.map [10] es))(hp:v8 H es q):
  ∃es' H',dlM [10] (.map M) (.int .u64 (s:Nat)) H=some (.tuple [],H')/\H'.h.get M=some (.map [10] es')/\v8 H' es' (zBZ s q)/\Stp (fun B=>B=M) H H':=by
 cases hl:qV s q with
 | none=>
  refine⟨es,H, ?_,hM,by rw[YA hl];exact hp,Stp.refl hk⟩;simp only[dlM,zMN,hM,show YS [10] [10]=true from rfl,cond_true,Y8 hp hl]
 | some nd=>
  obtain⟨es',e1,e2,e3⟩:=hp.del s nd hl;have s1:Stp (fun B=>B=M) H (H.put M (.map [10] es')):=(Stp.refl hk).put (hk.lt hM) _ (.inr rfl);refine⟨es',H.put M (.map [10] es'), ?_,by rw[AH.put_get,if_pos rfl],e2.frame fun kv hkv nd2 hn=>hn.stp s1 fun B hB e=> ?_,s1⟩
  ·simp only[dlM,zMN,hM,show YS [10] [10]=true from rfl,cond_true,e1,jW]
  ·subst e;exact hn.nblk hM (.inr (.inl ⟨_,_,rfl⟩)) hB
theorem zG6 (D:Dyn)(n:Nat){H0 H:AH}{At Ac F M:Nat}{d c dr:AV}{root0 root:Ptr}{es:List (AV×AV)}{q:PN}{fes:List (AV×AV)}{f:PN}{g:AV}{gl:List Ptr}{last0 last:Nat}(ti:TI H0 At M d c root0 es q last0 dr)(hq: ∀s nd,qV s q=some nd->s<=last0)
  (ch:Ch H0 H At Ac F fes f g gl last0 last) (hgl: ∀p∈gl,∃s,p=pp s) (hl:last<=900000000) (hn:gl.length<n) (hql:q.length<=last0):
  ∃H' es',f69 D n [.ptr Ac 0, .agg (y5 root)] H=some (.tuple [],H')/\TI H' At M d c root es' (gJ q gl++f) last dr/\Stp (fun B=>B=At\/B=M) H0 H':=by
 have tiH:=ti.prs ch.prs;have hfew:=ch.few;obtain⟨Ad,od,rfl⟩:=ti.hd;obtain⟨H1,A3,b1,p1,g1,m1,n1⟩:=box ch.prs.ok (.cells (y5 root) 65 1 false);have ch1:=ch.step p1;have ti1:=tiH.prs p1;have atlt:At<H0.next:=ti.ok.lt ti.gT
 have mlt:M<H0.next:=ti.ok.lt ti.gM
 have N0:=ch.prs.next;have N1:=p1.next
 have cC:=ch.dC;have cF:=ch.dF;have lC:=ch.ltC;have lF:=ch.ltF;have atM:At≠M:=fun e=>by have:=ti.gT;rw[e,ti.gM]at this;cases this
 have gM0: ∀B,Blk g B-> ¬B=M:=fun B hB e=>by have:=ch.gN B hB;omega
 have lp:=kI (b:=zFl D n) gl.length (fun i us H'=>us=[.ptr Ac 0, .ptr A3 0, .ptr At 0,g, .int .i64 (gl.length:Nat), .int .i64 (i:Nat)]/\Stp (fun B=>B=M) H1 H'/\ ∃esi,H'.h.get M=some (.map [10] esi)/\v8 H' esi (gJ q (gl.take i))) (fun i us H' hi ⟨hus,st,esi,hM,hp⟩=>by
  subst hus;have hi':gl[i]∈gl:=zR hi;obtain⟨s,hs⟩:=hgl _ hi';have og:Own 3 65 H' g gl.length (gl.flatMap y5):=ch1.gg.mono st gM0;obtain⟨pq,i1,i2⟩:=uO.at (l:=gl) og.row hi;rw[hs]at i2;obtain⟨H2,A6,b2,p2,g2,m2,n2⟩:=box st.ok (.cells [.int .i64 ((0:Nat):Int), .int .i64 ((0:Nat):Int), .int .u64 ((0:Nat):Int)] 65 1 false);obtain⟨H3,e3,g3,s3,n3⟩:=qX p2.ok g2 (l':=y5 (pp s)) rfl rfl;have e3':stN 3 (.ptr A6 0) (.agg (y5 (pp s))) H2=some (qN,H3):=e3;have N2:=st.next;have N3:=p2.next
  have p3:Prs H' H3:=p2.fresh s3 (fun B hB=>by omega);have hM3:=Prs.get p3 st.ok hM;obtain⟨es4,H4,e4,hM4,hp4,s4⟩:=zNS (s:=s) p3.ok hM3 (hp.frame fun kv _ nd hn=>hn.prs p3);have gT3:H3.h.get At=some (.cells (u4 (.ptr Ad od) c root0 M last0 dr) 107 1 false):=by
   rw[p3.keep _ (by omega) (fun x=>x),st.keep _ (by omega) atM];exact ti1.gT
  refine⟨_,H4, ?_,rfl,(st.trans (p3.mono fun _ _ x=>x.elim)).trans s4,es4,hM4, ?_⟩
  ·have hiI:((i:Nat):Int)< ((gl.length:Nat):Int):=by omega
   have f0:ld1 (.ptr A6 0) H3=some (.int .i64 ((1:Nat):Int)):=by rw[qM g3];rfl
   have f2:ld1 (.ptr A6 2) H3=some (.int .u64 (s:Nat)):=by rw[qM g3];rfl
   have f5:ld1 (.ptr At 5) H3=some (.map M):=by rw[qM gT3];rfl
   simp(maxSteps:=999999)(disch:=omega) only[zFl,eZ,hiI,i1,i2,b2,e3',f0,f5,f2,e4,zNj,Int.natCast_add]
  ·rw[zJ hi,K2,hs];exact hp4) n _ H1 ⟨rfl,Stp.refl p1.ok,es,ti1.gM,by simpa[gJ]using ti1.pq⟩ hn
 obtain⟨m,us,H2,e2,rfl,st,esn,hM,hp⟩:=lp;rw[zY]at hp;have N2:=st.next
 have lastl:qT (m+1) (zFl D n) [.ptr Ac 0, .ptr A3 0, .ptr At 0,g, .int .i64 (gl.length:Nat), .int .i64 (gl.length:Nat)] H2=some (.exit 0 [.ptr Ac 0, .ptr A3 0, .ptr At 0],H2):=qU (by simp only[zFl,eZ,zS]);have gC2:H2.h.get Ac=some (.cells [.ptr At 0, .int .u64 (last:Nat), .map F,g] 136 1 false):=by rw[st.keep _ (by omega) (by omega)];exact ch1.gC
 have gF2:H2.h.get F=some (.map [10] fes):=by rw[st.keep _ (by omega) (by omega)];exact ch1.gF
 have gT2:H2.h.get At=some (.cells (u4 (.ptr Ad od) c root0 M last0 dr) 107 1 false):=by rw[st.keep _ (by omega) atM];exact ti1.gT
 have g32:H2.h.get A3=some (.cells (y5 root) 65 1 false):=by rw[st.keep _ (by omega) (by omega)];exact g1
 have pf2:v8 H2 fes f:=ch1.pf.frame fun kv _ nd hn=>hn.stp st fun B hB e=>by subst e;exact hn.nblk ti1.gM (.inr (.inl ⟨_,_,rfl⟩)) hB
 have hup:=zGY st.ok gF2 hM (by omega) pf2;have hnone: ∀x∈fes,vW x.1 esn=none:=fun x hx=>by
  obtain⟨s,hs,hm⟩:=ch1.pf.keys x hx;rw[hs];refine(hp.find s).2 ?_
  cases hk:qV s (gJ q gl)with
  | none=>rfl
  | some nd2=>
   have m1:=dT (wN hk);obtain⟨nd3,h3⟩:=vU (q:=q) (s:=s) (List.mem_map.2 ⟨_,m1,rfl⟩);obtain⟨nd4,h4⟩:=vU hm;have:=hq _ _ h3;have:=ch.fs _ _ h4;omega
 rw[zAN hnone (ch1.pf.dist ch.fd)]at hup;obtain⟨s3,g3M⟩:=zHo st.ok (st.ok.lt hM) (.map [10] (esn++fes)) (1+1*fes.length);have hnx:H2.next<=(AH.putB H2 M (.map [10] (esn++fes)) (1+1*fes.length)).next:=s3.next
 generalize AH.putB H2 M (.map [10] (esn++fes)) (1+1*fes.length)=H3 at hup s3 g3M hnx;have hmt:aW [.ptr Ac 0, .ptr A3 0, .ptr At 0] H2=some H3:=by
  have c1:ld1 (.ptr Ac (0+2)) H2=some (.map F):=by rw[qM gC2];rfl
  have c2:ld1 (.ptr At (0+5)) H2=some (.map M):=by rw[qM gT2];rfl
  have d1:Nat.blt F H2.next=true:=by rw[zL];omega
  have d2:Nat.blt M H2.next=true:=by rw[zL];omega
  have d3:Nat.blt At H2.next=true:=by rw[zL];omega
  simp only[aW,c1,c2,d1,d2,d3,Bool.and_self,cond_true,hup]
 have gC3:H3.h.get Ac=some (.cells [.ptr At 0, .int .u64 (last:Nat), .map F,g] 136 1 false):=by rw[s3.keep _ (by omega) (by omega)];exact gC2
 have gT3:H3.h.get At=some (.cells (u4 (.ptr Ad od) c root0 M last0 dr) 107 1 false):=by rw[s3.keep _ (by omega) atM];exact gT2
 have g33:H3.h.get A3=some (.cells (y5 root) 65 1 false):=by rw[s3.keep _ (by omega) (by omega)];exact g32
 obtain⟨H4,e4,g4,s4,n4⟩:=Q6 s3.ok gT3 (o:=6) (x:= .int .u64 (last:Nat)) rfl (by simp[u4]);have g4:H4.h.get At=some (.cells (u4 (.ptr Ad od) c root0 M last dr) 107 1 false):=g4;have g34:H4.h.get A3=some (.cells (y5 root) 65 1 false):=by rw[s4.keep _ (by omega) (by omega)];exact g33
 have e5:=zAV (o:=2) (n:=3) (x:= .agg (y5 root)) g4 (by decide) rfl rfl (by simp[u4]);have g5:(H4.put At (.cells ((u4 (.ptr Ad od) c root0 M last dr).take 2++qW (.agg (y5 root))++(u4 (.ptr Ad od) c root0 M last dr).drop (2+3)) 107 1 false)).h.get At=some (.cells (u4 (.ptr Ad od) c root M last dr) 107 1 false):=by rw[AH.put_get,if_pos rfl];rfl
 have s5:Stp (fun B=>B=At) H4 (H4.put At (.cells ((u4 (.ptr Ad od) c root0 M last dr).take 2++qW (.agg (y5 root))++(u4 (.ptr Ad od) c root0 M last dr).drop (2+3)) 107 1 false)):=(Stp.refl s4.ok).put (s4.ok.lt g4) _ (.inr rfl);generalize H4.put At (.cells ((u4 (.ptr Ad od) c root0 M last dr).take 2++qW (.agg (y5 root))++(u4 (.ptr Ad od) c root0 M last dr).drop (2+3)) 107 1 false)=H5 at e5 g5 s5;have N3:=s3.next;have N4:=s4.next;have N5:=s5.next
 have fr: ∀ {v:AV} {nd:Nd.Node},yC H2 v nd->yC H5 v nd:=fun {v nd} hn=>by
  have h3:yC H3 v nd:=hn.stp s3 fun B hB e=>by subst e;exact hn.nblk hM (.inr (.inl ⟨_,_,rfl⟩)) hB
  have h4:yC H4 v nd:=h3.stp s4 fun B hB e=>by subst e;exact h3.nblk gT3 (.inl ⟨_,_,_,_,rfl,fun _ _ e=>by cases e⟩) hB
  exact h4.stp s5 fun B hB e=>by subst e;exact h4.nblk g4 (.inl ⟨_,_,_,_,rfl,fun _ _ e=>by cases e⟩) hB
 refine⟨H5,esn++fes, ?_,⟨s5.ok,g5, ?_, ?_,⟨_,_,rfl⟩, ?_⟩,⟨s5.ok,by omega,fun B hB hS=> ?_⟩⟩
 ·have hble:Nat.ble H2.next H3.next=true:=by rw[zT];exact hnx
  have c0:ld1 (.ptr Ac 0) H1=some (.ptr At 0):=by rw[qM ch1.gC];rfl
  have c3:ld1 (.ptr Ac 3) H1=some g:=by rw[qM ch1.gC];rfl
  have c1:ld1 (.ptr Ac 1) H3=some (.int .u64 (last:Nat)):=by rw[qM gC3];rfl
  have r3:ldN 3 (.ptr A3 0) H4=some (.agg (y5 root)):=by rw[qR g34];rfl
  simp(maxSteps:=999999)(disch:=omega) only[f69,eZ,b1,c0,c3,ch1.gg.row.lnSl,e2,lastl,zNk,hmt,tld,hble,cond_true,c1,e4,r3,e5]
 ·rw[s5.keep _ (by omega) (fun e=>atM e.symm),s4.keep _ (by omega) (fun e=>atM e.symm)];exact g3M
 ·exact v8.append (pf2.frame fun kv _ nd hn=>fr hn) (hp.frame fun kv _ nd hn=>fr hn)
 ·have h1:=dU gl q;have h2:=ch.fl;simp only[zI];omega
 ·have a1: ¬B=At:=fun e=>hS (.inl e)
  have a2: ¬B=M:=fun e=>hS (.inr e)
  rw[s5.keep B (by omega) a1,s4.keep B (by omega) a1,s3.keep B (by omega) a2,st.keep B (by omega) a2,p1.keep B (by omega) (fun x=>x),ch.prs.keep B hB (fun x=>x)]
end Go.Eng.Sh
end
section
namespace Go.Bt
open Go.Nd (Str Kvs Ptr qQ)
theorem WF.wr: ∀ {h:Nat} {t:Tr h},WF h none none t->WR h t
 | 0,_,w=>w
 | _+1,_,w=>⟨w.1,w.2.1,w.2.2.2⟩
theorem WX.wr: ∀ {h:Nat} {t:Tr h},WX h none none t->(match h,t with | 0,l=>(l:Kvs)≠[] | _+1,t=>t.1≠[])->jA h t<=500->WR h t
 | 0,_,w,hne,hz=>⟨w.1,hne,hz⟩
 | _+1,_,w,hne,hz=>⟨w.1,hne,hz⟩
end Go.Bt
namespace Go.Eng.Sh
open Go.Nd (Ptr yH qQ Kvs)
open Go.Bt
def pZ:Ptr:=⟨((0:Nat):Int),((0:Nat):Int),((0:Nat):Int)⟩
def zGR (q:PN)(root:Ptr)(kv:Kvs):Prop:=(root=pZ/\kv=[])\/ ∃s h nd,∃t:Bt.Tr h,∃S:List Ptr,root=pp s/\qV s q=some nd/\jG (Qf q []) h nd t S/\WR h t/\(pp s::S).Nodup/\con h t=kv
theorem kZ.here {α:Type}{Q:Ptr->Option Nd.Node}{R:Nd.Node->α->List Ptr->Prop}(hr: ∀nd t S,R nd t S-> ∀p∈S,∃nd,Q p=some nd): ∀ {ps:List Ptr} {ts:List α} {S:List Ptr},kZ Q R ps ts S-> ∀p∈S,∃nd,Q p=some nd
 | [],[],_,h=>by subst h;simp
 | p::ps,t::ts,_,⟨nd,S1,S2,a,b,c,e⟩=>fun x hx=>by
  subst e;rcases List.mem_cons.1 hx with rfl | hx
  ·exact⟨nd,a⟩
  ·rcases List.mem_append.1 hx with hx | hx
   ·exact hr _ _ _ b x hx
   ·exact kZ.here hr c x hx
 | [],_::_,_,h=>h.elim
 | _::_,[],_,h=>h.elim
theorem jG.here {Q:Ptr->Option Nd.Node} : ∀ {h:Nat} {nd:Nd.Node} {t:Bt.Tr h} {S:List Ptr},jG Q h nd t S-> ∀p∈S,∃nd,Q p=some nd
 | 0,_,_,_,w=>by obtain⟨_,rfl⟩:=w;simp
 | h+1,_,_,_,w=>kZ.here (fun _ _ _ hr=>jG.here hr) w.2.2.2
theorem zKp {q f:PN}{gl T Fr R:List Ptr}{last0:Nat}(hq: ∀s nd,qV s q=some nd->s<=last0)(hf: ∀s nd,qV s f=some nd->last0<s)(hT:T.Perm (Fr++R))(hG:(gl++R).Nodup)(hgl: ∀p∈gl,∃s,p=pp s)(hFr: ∀p∈Fr,∃j,p=pp j/\last0<j)(hFn:Fr.Nodup)(hR: ∀p∈R,∃nd,Qf q [] p=some nd):
  T.Nodup/\ ∀p∈T,∀nd,Qf q f p=some nd->Qf (gJ q gl++f) [] p=some nd:=by
 have hRold: ∀p∈R,∃s nd,p=pp s/\qV s q=some nd/\s<=last0:=fun p hp=>by
  obtain⟨nd,h⟩:=hR p hp;obtain⟨s,rfl,h1 | ⟨_,h1⟩⟩:=bL h
  ·simp[qV]at h1
  ·exact⟨s,nd,rfl,h1,hq _ _ h1⟩
 obtain⟨_,hRn,hdis⟩:=List.nodup_append.1 hG;refine⟨hT.nodup_iff.2 (List.nodup_append.2 ⟨hFn,hRn,fun a ha b hb e=> ?_⟩),fun p hp nd h=> ?_⟩
 ·obtain⟨j,rfl,hj⟩:=hFr a ha;obtain⟨s,nd,rfl,_,hs⟩:=hRold b hb;have:=aU e;omega
 ·obtain⟨s,rfl,h1 | ⟨h0,h1⟩⟩:=bL h
  ·rw[Z9];simp only[qV];have hs:=hf _ _ h1;rw[kE]
   cases hk:qV s (gJ q gl)with
   | none=>exact h1
   | some n2=>
    obtain⟨n3,h3⟩:=vU (List.mem_map.2 ⟨_,dT (wN hk),rfl⟩);have:=hq _ _ h3;simp only at this;omega
  ·rw[Z9];simp only[qV];have hs:=hq _ _ h1;have hpR:pp s∈R:=by
    rcases List.mem_append.1 (hT.mem_iff.1 hp)with e | e
    ·obtain⟨j,e,hj⟩:=hFr _ e;have:=aU e;omega
    ·exact e
   rw[kE,K3 fun p' hp' e=> ?_,h1];obtain⟨s',rfl⟩:=hgl p' hp';have:s=s':=by simpa[pp]using e
   subst this;exact hdis _ hp' _ hpR rfl
theorem zBp {q f:PN}{gl:List Ptr}{last0 last:Nat}(hq: ∀s nd,qV s q=some nd->s<=last0)(hf: ∀s nd,qV s f=some nd->last0<s/\s<=last)(hl:last0<=last): ∀s nd,qV s (gJ q gl++f)=some nd->s<=last:=fun s nd h=>by
 rw[kE]at h
 cases hk:qV s (gJ q gl)with
 | none=>rw[hk]at h;exact(hf _ _ h).2
 | some n2=>
  obtain⟨n3,h3⟩:=vU (List.mem_map.2 ⟨_,dT (wN hk),rfl⟩);have:=hq _ _ h3;simp only at this;omega
theorem kZ.perm_one {α:Type}{Q:Ptr->Option Nd.Node}{R:Nd.Node->α->List Ptr->Prop}{ps:List Ptr}{t:α}{S:List Ptr}(h:kZ Q R ps [t] S): ∃p nd S1,ps=[p]/\Q p=some nd/\R nd t S1/\S=p::S1:=by
 match ps,h with
 | [p],⟨nd,S1,S2,a,b,c,e⟩=>exact⟨p,nd,S1,rfl,a,b,by simp only[kZ]at c;rw[e,c,List.append_nil]⟩
 | _::_::_,⟨_,_,_,_,_,c,_⟩=>exact c.elim
 | [],h=>exact h.elim
theorem CutsN.one_inv {nd:Nd.Node}{nds:List Nd.Node}{ss:List Str}(h:CutsN nd nds ss)(hz:Nd.size nd<=500):nds=[nd]/\ss=[]:=by
 cases h with
 | one _=>exact⟨rfl,rfl⟩
 | more h1=>omega
theorem CutsN.more_inv {nd:Nd.Node}{nds:List Nd.Node}{ss:List Str}(h:CutsN nd nds ss)(hz:500<Nd.size nd):ss≠[]:=by
 cases h with
 | one h1=>omega
 | more h1=>simp
def zJ3 (H0 H':AH)(At M:Nat)(d c dr:AV)(low top:Nat)(kv:Kvs):Prop:= ∃root es q last,TI H' At M d c root es q last dr/\Stp (fun B=>B=At\/B=M) H0 H'/\(∀s nd,qV s q=some nd->s<=last)/\q.length<=last/\low<=last/\last<=top/\zGR q root kv
theorem zJ3.mono {H0 H':AH}{At M:Nat}{d c dr:AV}{low low' top top':Nat}{kv:Kvs}(h:zJ3 H0 H' At M d c dr low top kv)(hl:low'<=low)(ht:top<=top'):zJ3 H0 H' At M d c dr low' top' kv:=by
 obtain⟨root,es,q,last,h1,h2,h3,h4,h5,h6,h7⟩:=h;exact⟨root,es,q,last,h1,h2,h3,h4,by omega,by omega,h7⟩
theorem zG5 (D:Dyn)(n:Nat){H0 H:AH}{At Ac F M:Nat}{d c dr:AV}{root0:Ptr}{es:List (AV×AV)}{q:PN}{fes:List (AV×AV)}{f:PN}{g:AV}{gl:List Ptr}{last0 last:Nat}(ti:TI H0 At M d c root0 es q last0 dr)(hq: ∀s nd,qV s q=some nd->s<=last0)
  (ch:Ch H0 H At Ac F fes f g gl last0 last) (hgl: ∀p∈gl,∃s,p=pp s) (hl:last<=900000000) (hn:gl.length<n) (hql:q.length<=last0):
  ∃H',f69 D n [.ptr Ac 0, .agg [.int .i64 ((0:Nat):Int), .int .i64 ((0:Nat):Int), .int .u64 ((0:Nat):Int)]] H=some (.tuple [],H')/\zJ3 H0 H' At M d c dr last last []:=by
 obtain⟨H',es',e,ti',st⟩:=zG6 D n (root:=pZ) ti hq ch hgl hl hn hql;refine⟨H',e,_,_,_,last,ti',st,zBp hq ch.fs ch.le, ?_,Nat.le_refl _,Nat.le_refl _, .inl ⟨rfl,rfl⟩⟩;have h1:=dU gl q;have h2:=ch.fl;simp only[zI];omega
theorem dQ (D:Dyn)(n:Nat){H0 H:AH}{At Ac F M s h:Nat}{d c dr:AV}{root0:Ptr}{es:List (AV×AV)}{q:PN}{fes:List (AV×AV)}{f:PN}{g:AV}{gl Fr R:List Ptr}{last0 last:Nat}{nd:Nd.Node}{t:Bt.Tr h}{S:List Ptr}(ti:TI H0 At M d c root0 es q last0 dr)(hq: ∀s nd,qV s q=some nd->s<=last0)
  (ch:Ch H0 H At Ac F fes f g gl last0 last) (hgl: ∀p∈gl,∃s,p=pp s) (hl:last<=900000000) (hn:gl.length<n) (hql:q.length<=last0)
  (hs:Qf q f (pp s)=some nd) (rn:jG (Qf q f) h nd t S) (wr:WR h t) (hT:(pp s::S).Perm (Fr++R)) (hG:(gl++R).Nodup) (hFr: ∀p∈Fr,∃j,p=pp j/\last0<j) (hFn:Fr.Nodup) (hR: ∀p∈R,∃nd,Qf q [] p=some nd):
  ∃H',f69 D n [.ptr Ac 0, .agg (y5 (pp s))] H=some (.tuple [],H')/\zJ3 H0 H' At M d c dr last last (con h t):=by
 obtain⟨H',es',e,ti',st⟩:=zG6 D n (root:=pp s) ti hq ch hgl hl hn hql;obtain⟨nd1,mono⟩:=zKp hq (fun s nd h=>(ch.fs s nd h).1) hT hG hgl hFr hFn hR;refine⟨H',e,_,_,_,last,ti',st,zBp hq ch.fs ch.le, ?_,Nat.le_refl _,Nat.le_refl _, .inr ⟨s,h,nd,t,S,rfl, ?_,rn.mono (fun p hp nd hh=>mono p (zA _ hp) nd hh),wr,nd1,rfl⟩⟩
 ·have h1:=dU gl q;have h2:=ch.fl;simp only[zI];omega
 ·have:=mono (pp s) (zB ..) nd hs;rw[Z9]at this;simpa[qV]using this
theorem zIu (D:Dyn)(n:Nat)(hn:200000000<=n){H0 H:AH}{At Ac F M h:Nat}{d c dr u:AV}{root0:Ptr}{es:List (AV×AV)}{q:PN}{fes:List (AV×AV)}{f:PN}{g:AV}{gl Fr R:List Ptr}{last0 last:Nat}{nd:Nd.Node}{t:Bt.Tr h}{S:List Ptr}(ti:TI H0 At M d c root0 es q last0 dr)(hq: ∀s nd,qV s q=some nd->s<=last0)
  (ch:Ch H0 H At Ac F fes f g gl last0 last) (hgl: ∀p∈gl,∃s,p=pp s) (hl:last<=700000000) (hgn:gl.length<n) (hql:q.length<=last0) (hu:k7 H g u nd)
  (rn:jG (Qf q f) h nd t S) (wx:WX h none none t) (hS:S.Perm (Fr++R)) (hG:(gl++R).Nodup) (hFr: ∀p∈Fr,∃j,p=pp j/\last0<j/\j<=last) (hFn:Fr.Nodup) (hR: ∀p∈R,∃nd,Qf q [] p=some nd):
  ∃H',f76 D n [.ptr Ac 0,u] H=some (.int .i64 ((0:Nat):Int),H')/\zJ3 H0 H' At M d c dr last (last+7) (con h t):=by
 obtain⟨ks,vs0,ps,rfl,j1,j2,j3⟩:=id hu.1;obtain⟨H1,A3,b1,p1,g1,m1,n1⟩:=box ch.prs.ok (.cells [.bool nd.leaf,ks,vs0,ps] 111 1 false);have ch1:=ch.step p1;have hu1:=hu.prs p1;have hFr': ∀p∈Fr,∃j,p=pp j/\last0<j:=fun p hp=>by obtain⟨j,a,b,_⟩:=hFr p hp;exact⟨j,a,b⟩
 have e0:ld1 (.ptr A3 0) H1=some (.bool nd.leaf):=by rw[qM g1];rfl
 have e1:ld1 (.ptr A3 1) H1=some ks:=by rw[qM g1];rfl
 have e3:ld1 (.ptr A3 3) H1=some ps:=by rw[qM g1];rfl
 by_cases hk:nd.keys=[]
 ·
  have hk0:((nd.keys.length:Nat):Int)=((0:Nat):Int):=by rw[hk];rfl
  cases h with
  | zero=>
   obtain⟨hnd,rfl⟩:=rn;have ht:t=([]:Kvs):=List.map_eq_nil_iff.1 (show List.map Prod.fst (t:Kvs)=[]from(show(qQ t).keys=[]from hnd▸hk));subst ht;obtain⟨H2,e2,dn⟩:=zG5 D n ti hq ch1 hgl (by omega) hgn hql;refine⟨H2, ?_,dn.mono (Nat.le_refl _) (by omega)⟩;have e0':ld1 (.ptr A3 0) H1=some (.bool true):=by rw[e0,hnd];rfl
   have bs:jT [(0,1),(1,1),(2,1)] [.int .i64 ((0:Nat):Int), .int .i64 ((0:Nat):Int), .int .u64 ((0:Nat):Int)] []=some (.agg [.int .i64 ((0:Nat):Int), .int .i64 ((0:Nat):Int), .int .u64 ((0:Nat):Int)]):=rfl;simp(maxSteps:=999999)(disch:=omega) only[f76,eZ,b1,e1,j1.row.lnSl,hk0,e0',bs,e2,zL8]
  | succ h=>
   obtain⟨r1,r2,r3,r4⟩:=id rn;obtain⟨w1,w2⟩:=id wx;rw[hk]at r2;have hlen:=w1.2.2.len;rw[<-r2]at hlen;obtain⟨t1,ht1⟩: ∃t1,t.2=[t1]:=by
    match ht:t.2,hlen with
    | [a],_=>exact⟨a,rfl⟩
   have hkb:=w1.2.2;rw[<-r2,ht1]at hkb;rw[ht1]at r4;obtain⟨k0,nd1,S1,hk1,q1,rn1,hS1⟩:=kZ.perm_one r4;obtain⟨s1,rfl,_⟩:=bL q1;subst hS1;obtain⟨H2,e2,dn⟩:=dQ D n ti hq ch1 hgl (by omega) hgn hql q1 rn1 (WF.wr hkb) hS hG hFr' hFn hR;have e0':ld1 (.ptr A3 0) H1=some (.bool false):=by rw[e0,r1]
   have hcon:con (h+1) t=con h t1:=by simp only[con,ht1,zP,List.flatMap_nil,List.append_nil]
   rw[hcon];refine⟨H2, ?_,dn.mono (Nat.le_refl _) (by omega)⟩;obtain⟨qk,ik,ik'⟩:=uO.at (l:=nd.kids) (j3.mono p1 (fun _ _ x=>x)).row (i:=0) (by rw[hk1];simp);have hkk:nd.kids[0]'(by rw[hk1];simp)=pp s1:=by simp[hk1]
   rw[hkk]at ik';simp(maxSteps:=999999)(disch:=omega) only[f76,eZ,b1,e1,j1.row.lnSl,hk0,e0',e3,ik,ik',e2,zL8]
 ·
  have hk0: ¬((nd.keys.length:Nat):Int)=((0:Nat):Int):=by
   have:nd.keys.length≠0:=fun e=>hk (zH e)
   omega
  have hsh:=rn.shaped wx.gen (fun _=>hk) (jG.kidOk rn);have hz:Nd.size nd<=785:=by rw[rn.size];exact wx.sz
  obtain⟨pv,sv,H2,vs,nds,ss,e2,p2,hcut,oP,hpar,oS,bP,bS,bvs⟩:=UY D n hn p1.ok hu1.1 hsh (by omega);obtain⟨ts,c1,c2⟩:=XB hcut rn wx;have few:nds.length<=6:=by
   by_cases hb:Nd.size nd<=500
   ·rw[(hcut.one_inv hb).1];simp
   ·have:=(XA c1 wx (.inr (by rw[<-rn.size];omega))).2.2.1;rw[c2.len];exact this
  have ch2:=ch1.step p2;obtain⟨kv,H3,e3',ch3,a3,o3,f3⟩:=BP D n hn ch2 oP hpar (fun l hl B hB hgB=>by
   rcases bvs l hl B hB with e | e
   ·exact hu.2 B e hgB
   ·have:=Rw.blk ch1.gg.row hgB;omega) (by omega) (by omega)
  have N1:=p1.next;have N2:=p2.next;have N3:=a3.1.next
  have hnone: ∀j,qV (last+1+j) f=none:=fun j=>by
   cases hk:qV (last+1+j) f with
   | none=>rfl
   | some n2=>have:=ch.fs _ _ hk;omega
  have hnew: ∀s nd',qV s (kH last nds)=some nd'->last0<s:=fun s nd' hs=>by have:=YK hs;have:=ch.le;omega
  have more: ∀p nd,Qf q f p=some nd->Qf q (f++kH last nds) p=some nd:=fun p nd hp=>XO hq hnew hp
  have at1: ∀j nd',nds[j]? =some nd'->Qf q (f++kH last nds) (pp (last+1+j))=some nd':=fun j nd' hj=>by rw[Z9,kE,hnone];simp only[aD hj]
  have okv:uO H3 kv (pps last nds.length):=by
   have:=o3.row;rw[uO,cW];exact this
  have lkv:=okv.lnSl;rw[cW]at lkv;have t00: ¬(((0:Nat):Int)≠((0:Nat):Int)):=by omega
  by_cases hb:Nd.size nd<=500
  ·obtain⟨rfl,rfl⟩:=hcut.one_inv hb;have hone:(([nd].length:Nat):Int)=((1:Nat):Int):=rfl;have wr:WR h t:=wx.wr (by
    cases h with
    | zero=>obtain⟨rfl,_⟩:=rn;intro e;exact hk (by rw[show t=([]:Kvs)from e];rfl)
    | succ h=>exact(show t.1≠[]from rn.2.1▸hk)) (by rw[<-rn.size];exact hb)
   have hfp: ∀p∈pp (last+1)::Fr,∃j,p=pp j/\last0<j:=fun p hp=>by
    rcases List.mem_cons.1 hp with rfl | hp
    ·exact⟨_,rfl,by have:=ch.le;omega⟩
    ·exact hFr' p hp
   have hfn:(pp (last+1)::Fr).Nodup:=List.nodup_cons.2 ⟨fun hp=>by
    obtain⟨j,e,_,hj⟩:=hFr _ hp;have:=aU e;omega,hFn⟩
   obtain⟨H4,e4,dn⟩:=dQ D n (s:=last+1) (t:=t) (S:=S) ti hq ch3 hgl (by simp;omega) hgn hql (at1 0 nd rfl) (rn.mono fun p _ nd hp=>more p nd hp) wr (List.Perm.cons _ hS) hG hfp hfn hR;refine⟨H4, ?_,dn.mono (by simp) (by simp)⟩;obtain⟨qk,ik,ik'⟩:=uO.at okv (i:=0) (by simp[pps]);have hkk:(pps last [nd].length)[0]'(by simp[pps])=pp (last+1):=by simp[pps]
   rw[hkk]at ik';simp(maxSteps:=999999)(disch:=omega) only[f76,eZ,b1,e1,j1.row.lnSl,hk0,vL g1 rfl,e2,qL,nth,t00,e3',lkv,hone,ik,ik',e4,zL7]
  ·have hss:=hcut.more_inv (by omega);obtain⟨w1,w2,w3,_⟩:=XA c1 wx (.inr (by rw[<-rn.size];omega));have hlen:=w1.2.2.len;simp only at hlen;have hssl:ss.length≠0:=fun e=>hss (zH e)
   have hnl:=c2.len;have hone: ¬((nds.length:Nat):Int)=((1:Nat):Int):=by omega
   have c2':zCj (Qf q (f++kH last nds)) h nds ts S:=by
    have mono: ∀ {nds':List Nd.Node} {ts':List (Bt.Tr h)} {S':List Ptr},zCj (Qf q f) h nds' ts' S'->zCj (Qf q (f++kH last nds)) h nds' ts' S':=by
     intro nds'
     induction nds' with
     | nil=>intro ts' S' hp;cases ts' with
      | nil=>exact hp
      | cons=>exact hp.elim
     | cons a nds' ih=>intro ts' S' hp;cases ts' with
      | nil=>exact hp.elim
      | cons b ts'=>
       obtain⟨S1,S2,a1,a2,a3⟩:=hp;exact⟨S1,S2,a1.mono fun p _ nd hp=>more p nd hp,ih a2,a3⟩
    exact mono c2
   obtain⟨S2,r2,pm2⟩:=c2'.kids last at1;have g31:H3.h.get A3=some (.cells [.bool nd.leaf,ks,vs0,ps] 111 1 false):=by
    rw[a3.1.keep _ (by omega) (fun hc=>by
     rcases hc with e | e | e
     ·have:=ch.ltC;omega
     ·have:=ch.ltF;omega
     ·have:=Rw.blk ch.gg.row e;omega)]
    exact Prs.get p2 p1.ok g1
   have oS3:Own 1 9 H3 sv ss.length (ss.map Go.Eng.S):=oS.mono a3.1 (fun B hB hc=>by
    have:=bS B hB;rcases hc with e | e | e
    ·have:=ch.ltC;omega
    ·have:=ch.ltF;omega
    ·have:=Rw.blk ch.gg.row e;omega)
   have hG4:yC H3 (.agg [.bool false,sv, .nilSlice,kv]) ⟨false,ss,[],pps last nds.length⟩:=⟨sv, .nilSlice,kv,rfl, .inl oS3, .inl (Own.nil ..), .inl (by
    simp only[cW];exact o3)⟩
   have hA4:k7 H3 g (.agg [.bool false,sv, .nilSlice,kv]) ⟨false,ss,[],pps last nds.length⟩:=⟨hG4,fun B hB hgB=>by
    have:=Rw.blk ch.gg.row hgB;rcases kD.1 hB with e | e | e
    ·have:=bS B e;omega
    ·exact(Blk.nil.1 e).elim
    ·have:=f3 B e;omega⟩
   obtain⟨H4,e4,ch4,a4⟩:=zGD D n ch3 hA4 (by omega);have hne4:qV (last+nds.length+1) (f++kH last nds)=none:=by
    cases hk:qV (last+nds.length+1) (f++kH last nds)with
    | none=>rfl
    | some n2=>have:=ch3.fs _ _ hk;omega
   have more4: ∀p nd',Qf q (f++kH last nds) p=some nd'->Qf q (f++kH last nds++[(last+nds.length+1,⟨false,ss,[],pps last nds.length⟩)]) p=some nd':=fun p nd' hp=>XO hq (fun s nd hs=>by
    simp only[qV]at hs;split at hs
    ·have:=ch.le;omega
    ·cases hs) hp
   have at4:Qf q (f++kH last nds++[(last+nds.length+1,⟨false,ss,[],pps last nds.length⟩)]) (pp (last+nds.length+1))=some ⟨false,ss,[],pps last nds.length⟩:=by
    rw[Z9,kE,hne4];simp[qV]
   have rn4:jG (Qf q (f++kH last nds++[(last+nds.length+1,⟨false,ss,[],pps last nds.length⟩)])) (h+1) ⟨false,ss,[],pps last nds.length⟩ (ss,ts) S2:=⟨rfl,rfl,rfl,r2.mono (fun p _ nd hp=>more4 p nd hp) (fun nd t S1 _ hr=>hr.mono fun p _ nd hp=>more4 p nd hp)⟩;have hsum:=cS (ks:=ss) (fun k hk=>(w1.1 k hk).1);have wr4:WR (h+1) (ss,ts):=⟨w1,hss,by simp only[jH];omega⟩;have hfp: ∀p∈pp (last+nds.length+1)::(pps last nds.length++Fr),∃j,p=pp j/\last0<j:=fun p hp=>by
    have:=ch.le;rcases List.mem_cons.1 hp with rfl | hp
    ·exact⟨_,rfl,by omega⟩
    ·rcases List.mem_append.1 hp with hp | hp
     ·obtain⟨j,rfl,h1,h2⟩:=gY hp;exact⟨_,rfl,by omega⟩
     ·exact hFr' p hp
   have hfn:(pp (last+nds.length+1)::(pps last nds.length++Fr)).Nodup:=by
    refine List.nodup_cons.2 ⟨fun hp=> ?_,List.nodup_append.2 ⟨QE _ _,hFn,fun a ha b hb e=> ?_⟩⟩
    ·rcases List.mem_append.1 hp with hp | hp
     ·obtain⟨j,e,h1,h2⟩:=gY hp;have:=aU e;omega
     ·obtain⟨j,e,h1,h2⟩:=hFr _ hp;have:=aU e;omega
    ·obtain⟨j,rfl,h1,h2⟩:=gY ha;obtain⟨j',rfl,h3,h4⟩:=hFr _ hb;have:=aU e;omega
   have hT:(pp (last+nds.length+1)::S2).Perm ((pp (last+nds.length+1)::(pps last nds.length++Fr))++R):=by
    rw[List.cons_append,List.append_assoc];exact List.Perm.cons _ (pm2.trans (List.Perm.append_left _ hS))
   obtain⟨H5,e5,dn⟩:=dQ D n (s:=last+nds.length+1) ti hq ch4 hgl (by omega) hgn hql at4 rn4 wr4 hT hG hfp hfn hR;have hcon:con (h+1) (ss,ts)=con h t:=w2;rw[hcon]at dn;refine⟨H5, ?_,dn.mono (by omega) (by omega)⟩;simp(maxSteps:=999999)(disch:=omega) only[f76,eZ,b1,e1,j1.row.lnSl,hk0,vL g1 rfl,e2,qL,nth,t00,e3',lkv,hone,zLy oS3.row.isCell okv.isCell,e4,e5,zL7]
end Go.Eng.Sh
end
section
namespace Go.Bt
open Go.Nd (Str Kvs qQ)
theorem WR.gen: ∀ {h:Nat} {t:Tr h},WR h t->Gen h none none t
 | 0,_,w=>w.1
 | _+1,_,w=>w.1
theorem WR.sz: ∀ {h:Nat} {t:Tr h},WR h t->jA h t<=500
 | 0,_,w=>w.2.2
 | _+1,_,w=>w.2.2
theorem zBA {h:Nat} : ∀ {ts:List (Tr h)},(∀t∈ts,2 ^ h<=(con h t).length)->ts.length*2 ^ h<=(ts.flatMap (con h)).length
 | [],_=>by simp
 | t::ts,ih=>by
  have h1:=ih t (zB ..);have h2:=zBA (ts:=ts) fun t ht=>ih t (zA _ ht)
  simp only[zF,zP,zI,Nat.add_mul,Nat.one_mul];omega
theorem zEU {h:Nat}{lo hi:Bd}{t:List Str×List (Tr h)}(ih: ∀ {lo hi:Bd} {t:Tr h},WF h lo hi t->2 ^ h<=(con h t).length)(w:Inn (WF h) lo hi t)(hne:t.1≠[]):2 ^ (h+1)<=(t.2.flatMap (con h)).length:=by
 have hl:=w.2.2.len;have hk:t.1.length≠0:=fun e=>hne (zH e)
 have hf:=zBA (ts:=t.2) fun x hx=>by
  obtain⟨i,hi,rfl⟩:=qK hx;exact ih (KB.at w.2.2 (zC hi))
 have h2:2*2 ^ h<=t.2.length*2 ^ h:=zW _ (by omega);rw[Nat.pow_succ];omega
theorem WF.many: ∀ {h:Nat} {lo hi:Bd} {t:Tr h},WF h lo hi t->2 ^ h<=(con h t).length
 | 0,_,_,t,w=>by
  have:List.length (t:Kvs)≠0:=fun e=>w.2.1 (zH e)
  show 1<=List.length (t:Kvs);omega
 | _+1,_,_,_,w=>zEU WF.many w.1 w.2.1
theorem WR.many: ∀ {h:Nat} {t:Tr h},WR h t->2 ^ h<=(con h t).length
 | 0,t,w=>by
  have:List.length (t:Kvs)≠0:=fun e=>w.2.1 (zH e)
  show 1<=List.length (t:Kvs);omega
 | _+1,_,w=>zEU WF.many w.1 w.2.1
theorem WR.low {h:Nat}{t:Tr h}(w:WR h t)(hk:(con h t).length<=1000000000):h<=29:=by
 have:=w.many;rcases Nat.lt_or_ge h 30 with h1 | h1
 ·omega
 ·have h2:2 ^ 30<=2 ^ h:=Nat.pow_le_pow_right (by decide) h1;have h3:(2:Nat) ^ 30=1073741824:=by decide
  omega
end Go.Bt
namespace Go.Eng.Sh
open Go.Nd (Ptr yH qQ Kvs)
open Go.Bt
theorem cbx:(∀A o,qW (.ptr A o)=[.ptr A o])/\qW .nilPtr=[.nilPtr]/\qW .nilFunc=[.nilFunc]/\(∀k z,qW (.int k z)=[.int k z])/\(∀l,qW (S l)=[S l])/\(∀ed K V,qW (edF ed K V)=[edF ed K V])/\(∀A o,aveq (.ptr A o) (.ptr A o)=true):=
 ⟨fun _ _=>rfl,rfl,rfl,fun _ _=>rfl,fun _=>rfl,fun ed _ _=>by cases ed<;>rfl,fun _ _=>by simp[aveq]⟩
theorem zLw {H H':AH}{At Ac F last:Nat}(s:Prs H H')(gC:H'.h.get Ac=some (.cells [.ptr At 0, .int .u64 (last:Nat), .map F, .nilSlice] 136 1 false))(gF:H'.h.get F=some (.map [10] []))(dC:H.next<=Ac)(dF:H.next<=F)(ne:Ac≠F):
  Ch H H' At Ac F [] [] .nilSlice [] last last:=
 ⟨s,gC,gF,trivial,Own.nil ..,fun B hB=>(Blk.nil.1 hB).elim,fun _ h=>by simp at h,dC,dF,ne,fun _ _ h=>by simp[qV]at h,Nat.le_refl _,by simp,by simp,by simp⟩
theorem B0 (M n:Nat)(hM:300000000<=M)(hn:300000000<=n){H:AH}{At M0 K V last:Nat}{d c dr:AV}{root:Ptr}{es:List (AV×AV)}{q:PN}{kv:Kvs}{ed:Ed}(ti:TI H At M0 d c root es q last dr)(hq: ∀s nd,qV s q=some nd->s<=last)(hql:q.length<=last)(hl:last<=500000000)
  (hr:zGR q root kv) (hkv:kv.length<=1000000000) (ho:ed.ok) (hb:edB H ed K V):
  ∃(e:Nat) (H':AH),f52 (dy (M+2)) n [.ptr At 0,S ed.key,edF ed K V] H=some (.int .i64 (e:Nat),H')/\
   match ed.run kv with
   | none=>e=5/\Prs H H'
   | some kv'=>e=0/\zJ3 H H' At M0 d c dr last (last+200) kv':=by
 obtain⟨H1,B2,b1,p1,g1,m1,n1⟩:=box ti.ok (.cells [.ptr At 0] 25 1 false);obtain⟨H2,B4,b2,p2,g2,m2,n2⟩:=box p1.ok (.cells [S ed.key] 9 1 false);obtain⟨H3,B3,b3,p3,g3,m3,n3⟩:=box p2.ok (.cells [edF ed K V] 114 1 false);obtain⟨H4,F,b4,p4,g4,m4,n4⟩:=box p3.ok (.map [10] []);obtain⟨H5,Ac,b5,p5,g5,m5,n5⟩:=box p4.ok (.cells [.ptr At 0, .int .u64 (last:Nat), .map F, .nilSlice] 136 1 false);obtain⟨H6,B6,b6,p6,g6,m6,n6⟩:=box p5.ok (.cells [.nilPtr] 134 1 false);obtain⟨H7,e7,x7,s7⟩:=Box.st (⟨_,g6⟩:Box H6 B6 .nilPtr) p6.ok (x:= .ptr Ac 0) rfl;have P12:=p1.trans p2;have P13:=P12.trans p3;have P15:=(P13.trans p4).trans p5;have P16:=P15.trans p6;have P17:Prs H H7:=P16.fresh s7 (fun B hB=>by have:=P15.next;omega)
 have N1:=p1.next;have N2:=p2.next;have N3:=p3.next;have N4:=p4.next;have N5:=p5.next;have N6:=p6.next;have N7:=s7.next
 have keep7: ∀ {A:Nat} {o:AObj},H5.h.get A=some o->H7.h.get A=some o:=fun {A o} hg=>by
  have:=p5.ok.lt hg;rw[s7.keep _ (by omega) (by omega)];exact Prs.get p6 p5.ok hg
 have g57:=keep7 g5;have g47:=keep7 (Prs.get p5 p4.ok g4);have ch:Ch H H7 At Ac F [] [] .nilSlice [] last last:=zLw P17 g57 g47 (by omega) (by omega) (by omega);have ti7:=ti.prs P17;have ti3:=ti.prs P13;have k2:Box H7 B2 (.ptr At 0):=⟨_,keep7 (Prs.get (p4.trans p5) p3.ok (Prs.get p3 p2.ok (Prs.get p2 p1.ok g1)))⟩;have k3:Box H7 B3 (edF ed K V):=⟨_,keep7 (Prs.get (p4.trans p5) p3.ok g3)⟩;have k4:Box H7 B4 (S ed.key):=⟨_,keep7 (Prs.get (p4.trans p5) p3.ok (Prs.get p3 p2.ok g2))⟩;have l2:ld1 (.ptr B2 0) H3=some (.ptr At 0):=by rw[qM (Prs.get p3 p2.ok (Prs.get p2 p1.ok g1))];rfl
 have l6:ld1 (.ptr At 6) H3=some (.int .u64 (last:Nat)):=by rw[qM ti3.gT];rfl
 have l2':ld1 (.ptr At 2) H7=some (.int .i64 root.at_):=by rw[qM ti7.gT];rfl
 have bs:jT [(0,1),(1,1),(2,1),(3,1)] [.nilPtr, .int .u64 ((0:Nat):Int), .nilMap, .nilSlice] [(0, .ptr At 0),(1, .int .u64 (last:Nat)),(2, .map F)]=some (.agg [.ptr At 0, .int .u64 (last:Nat), .map F, .nilSlice]):=rfl;have bs1:jT [(0,1),(1,1),(2,1),(3,1)] [.bool false, .nilSlice, .nilSlice, .nilSlice] [(0, .bool true)]=some (.agg [.bool true, .nilSlice, .nilSlice, .nilSlice]):=rfl;have t00: ¬(((0:Nat):Int)≠((0:Nat):Int)):=by omega
 have t50:(((5:Nat):Int)≠((0:Nat):Int)):=by omega
 rcases hr with⟨rfl,rfl⟩ | ⟨s,h,nd,t,S0,rfl,hs,rn,wr,nd0,rfl⟩
 ·
  have hroot:pZ.at_=((0:Nat):Int):=rfl;rw[hroot]at l2';have wl:yC H7 (.agg [.bool true, .nilSlice, .nilSlice, .nilSlice]) (qQ []):=⟨.nilSlice, .nilSlice, .nilSlice,rfl, .inl (Own.nil ..), .inl (Own.nil ..), .inl (Own.nil ..)⟩;have wlf:Lf none none ([]:Kvs):=⟨trivial,by simp⟩;obtain⟨u,H8,_,e8,p8,w8⟩:=zG1 (M+1) n (by omega) P17.ok wl wlf (by decide) ho (hb.prs ti.ok P17);obtain⟨lu,rfl,lul,luc⟩:=w8.1.cells;obtain⟨H9,B8,b9,p9,g9,m9,n9⟩:=box p8.ok (.cells [.bool false, .nilSlice, .nilSlice, .nilSlice] 111 1 false);obtain⟨H10,e10,g10,s10,n10⟩:=qX p9.ok g9 (l':=lu) lul luc;have e10':stN 4 (.ptr B8 0) (.agg lu) H9=some (qN,H10):=e10;have N8:=p8.next;have N9:=p9.next;have N10:=s10.next
  have P70:Prs H7 H10:=(p8.trans p9).fresh s10 (fun B hB=>by omega);have ch10:=ch.step P70
  cases hrun:ed.run []with
  | none=>
   have hel:edL ed []=(nd0,5):=by simp only[edL,hrun]
   rw[hel]at e8;refine⟨5,H10, ?_,rfl,P17.trans P70⟩;simp(maxSteps:=999999)(disch:=omega) only[f52,eZ,b1,b2,b3,cbx,l2,l6,mkM,b4,bs,b5,b6,e7,k2.ld,l2',k3.ld,bs1,e8,qL,nth,b9,e10',t50,ne_eq,not_false_eq_true]
  | some kv'=>
   have hel:edL ed []=(qQ kv',0):=by simp only[edL,hrun]
   rw[hel]at e8 w8;obtain⟨wf1,wf2⟩:=Ed.leaf (lo:=none) (hi:=none) wlf trivial trivial ho hrun;have hne:kv'≠[]:=by
    cases ed with
    | put k v=>simp only[Ed.run,z7]at hrun;subst hrun;simp[Nd.putP]
    | del k=>simp[Ed.run,Nd.lookP]at hrun
   have hu10:k7 H10 .nilSlice (.agg lu) (qQ kv'):=⟨(w8.1.prs p9).stp s10 (fun B hB e=>by
    have:=w8.1.lt hB;omega),fun B hB hg=>(Blk.nil.1 hg).elim⟩
   obtain⟨H11,e11,ch11,a11⟩:=zGD (dy (M+2)) n ch10 hu10 (by omega);have hQ:Qf q ([]++[(last+1,qQ kv')]) (pp (last+1))=some (qQ kv'):=by rw[Z9];simp[qV]
   obtain⟨H12,e12,dn⟩:=dQ (dy (M+2)) n (s:=last+1) (h:=0) (t:=kv') (S:=[]) (Fr:=[pp (last+1)]) (R:=[]) ti hq ch11 (by simp) (by omega) (by simp;omega) hql hQ ⟨rfl,rfl⟩ ⟨wf1,hne,by simp only[bB]at wf2;omega⟩ (by simp) (by simp) (by
    intro p hp;simp only[List.mem_singleton]at hp;subst hp;exact⟨_,rfl,by omega⟩) (by simp) (by simp)
   refine⟨0,H12, ?_,rfl,dn.mono (by omega) (by omega)⟩;have k6:ld1 (.ptr B6 0) H10=some (.ptr Ac 0):=(x7.mono s7.ok P70 (fun x=>x)).ld;have k6':ld1 (.ptr B6 0) H11=some (.ptr Ac 0):=by
    refine((x7.mono s7.ok P70 (fun x=>x)).mono P70.ok a11.1 (fun hc=> ?_)).ld;rcases hc with e | e | e
    ·omega
    ·omega
    ·exact(Blk.nil.1 e).elim
   simp(maxSteps:=999999)(disch:=omega) only[f52,eZ,b1,b2,b3,cbx,l2,l6,mkM,b4,bs,b5,b6,e7,k2.ld,l2',k3.ld,bs1,e8,qL,nth,b9,e10',t00,k6,vL g10 lul,e11,j9 k6' (cbx.2.2.2.2.2.2 _ _),e12]
 ·
  have hroot:(pp s).at_=((1:Nat):Int):=rfl;rw[hroot]at l2';have h10: ¬((1:Nat):Int)=((0:Nat):Int):=by omega
  have hh:=wr.low hkv;obtain⟨H8,B1,b8,p8,g8,m8,n8⟩:=box P17.ok (.cells [.int .i64 ((0:Nat):Int)] 3 1 false);obtain⟨H9,e9,x9,s9⟩:=Box.st (⟨_,g8⟩:Box H8 B1 (.int .i64 ((0:Nat):Int))) p8.ok (x:= .int .i64 ((0:Nat):Int)) rfl;obtain⟨H10,B5,b10,p10,g10,m10,n10⟩:=box s9.ok (.cells [.nilFunc] 139 1 false);obtain⟨H11,e11,x11,s11⟩:=Box.st (⟨_,g10⟩:Box H10 B5 .nilFunc) p10.ok (x:=zCR B1 B2 B3 B4 B5 B6) rfl;obtain⟨H12,B8,b12,p12,g12,m12,n12⟩:=box s11.ok (.cells [.bool false, .nilSlice, .nilSlice, .nilSlice] 111 1 false);have N8:=p8.next;have N9:=s9.next;have N10:=p10.next;have N11:=s11.next;have N12:=p12.next
  have P79:Prs H7 H9:=p8.fresh s9 (fun B hB=>by omega);have P7b:Prs H7 H11:=(P79.trans p10).fresh s11 (fun B hB=>by omega);have P7c:Prs H7 H12:=P7b.trans p12;have ch12:=ch.step P7c;have ti12:=ti7.prs P7c;have ti11:=ti7.prs P7b;have x9':Box H12 B1 (.int .i64 ((0:Nat):Int)):=((x9.mono s9.ok p10 (fun x=>x)).mono p10.ok s11 (by omega)).mono s11.ok p12 (fun x=>x);have x11':Box H12 B5 (zCR B1 B2 B3 B4 B5 B6):=x11.mono s11.ok p12 (fun x=>x);have k6:Box H12 B6 (.ptr Ac 0):=x7.mono s7.ok P7c (fun x=>x);have cl:Cl H H12 At Ac K V ed B1 B2 B3 B4 B5 B6 0:=⟨x9',k2.mono s7.ok P7c (fun x=>x),k3.mono s7.ok P7c (fun x=>x),k4.mono s7.ok P7c (fun x=>x),x11',k6,hb,by omega,by omega,by omega,by omega,by omega,by omega⟩;have hold: ∀kv∈es,∀B,xZ kv.2 B->B<H.next:=fun kv hkv B hB=>by
   obtain⟨nd2,hn2⟩:=ti.pq.mem kv hkv;exact hn2.lt hB
  have hne:0<h->nd.keys≠[]:=fun h0=>by
   cases h with
   | zero=>omega
   | succ h=>rw[rn.2.1];exact wr.2.1
  obtain⟨u,e,g',H13,e13,s13,⟨lu,rfl,lul,luc⟩,hout⟩:=zLo ti hold hq ho h M (M+1) (by omega) (by omega) ch12 cl hs rn wr.gen wr.sz hne (by cases h<;>trivial) (by cases h<;>trivial) (by omega) (by omega) (by simp;omega);have hB8: ¬(chg Ac F .nilSlice B8\/B8=B1):=fun hc=>by
   rcases hc with(e | e | e) | e
   ·omega
   ·omega
   ·exact(Blk.nil.1 e).elim
   ·omega
  have g813:H13.h.get B8=some (.cells [.bool false, .nilSlice, .nilSlice, .nilSlice] 111 1 false):=by rw[s13.keep _ n12 hB8];exact g12
  have k613:Box H13 B6 (.ptr Ac 0):=k6.mono p12.ok s13 (fun hc=>by
   rcases hc with(e | e | e) | e
   ·omega
   ·omega
   ·exact(Blk.nil.1 e).elim
   ·omega)
  obtain⟨H14,e14,g14,s14,n14⟩:=qX s13.ok g813 (l':=lu) lul luc;have e14':stN 4 (.ptr B8 0) (.agg lu) H13=some (qN,H14):=e14;have k614:ld1 (.ptr B6 0) H14=some (.ptr Ac 0):=(k613.mono s13.ok s14 (by omega)).ld;have l2b:ld1 (.ptr B2 0) H11=some (.ptr At 0):=(k2.mono s7.ok P7b (fun x=>x)).ld;have lr:ldN 3 (.ptr At 2) H11=some (.agg (y5 (pp s))):=by rw[qR ti11.gT];rfl
  have x11l:=x11.ld;have hcd:callV (s52 (dy (M+2)) n).S (dy (M+2)) (zCR B1 B2 B3 B4 B5 B6) [.agg (y5 (pp s))] H12=some (.tuple [.agg lu, .int .i64 ((e:Nat):Int)],H13):=e13;have hdf:(.func 71 [] [.ptr B1 0, .ptr B2 0, .ptr B3 0, .ptr B4 0, .ptr B5 0, .ptr B6 0]:AV)=zCR B1 B2 B3 B4 B5 B6:=rfl
  cases hrun:ed.run (con h t)with
  | none=>
   rw[hrun]at hout;have hout:e=5:=hout;subst hout;refine⟨5,H14, ?_,rfl,⟨s14.ok,by have:=s13.next;have:=s14.next;omega,fun B hB _=> ?_⟩⟩
   ·simp(maxSteps:=999999)(disch:=omega) only[f52,eZ,b1,b2,b3,cbx,l2,l6,mkM,b4,bs,b5,b6,e7,k2.ld,l2',h10,b8,e9,b10,hdf,e11,x11l,l2b,lr,b12,hcd,qL,nth,e14',t50,ne_eq,not_false_eq_true]
   ·have:=s13.next
    rw[s14.keep B (by omega) (by omega),s13.keep B (by omega) (fun hc=>by
     rcases hc with(e | e | e) | e
     ·omega
     ·omega
     ·exact(Blk.nil.1 e).elim
     ·omega),P7c.keep B (by omega) (fun x=>x),P17.keep B hB (fun x=>x)]
  | some kv'=>
   rw[hrun]at hout;obtain⟨rfl,fes',f',gl',last',d',nd',S',G,R,Fr,t',ch13,cl13,hA13,rn13,wx13,con13,nk13,hgl,hG,hl1,hl2,hd',pm1,pm2,frn,fr1,more,bg⟩:=hout;have ch14:=ch13.stb g813 s14 (by omega) (by omega);have hA14:=hA13.stb g813 s14;rw[List.nil_append]at hgl;subst hgl;have hSn:(pp s::S0).Nodup:=nd0;have hGR:(gl'++R).Nodup:=pm2.nodup_iff.1 hSn;have hall: ∀p∈pp s::S0,∃nd,Qf q [] p=some nd:=fun p hp=>by
    rcases List.mem_cons.1 hp with rfl | hp
    ·exact⟨nd,by rw[Z9];simpa[qV]using hs⟩
    ·exact jG.here rn p hp
   have hin: ∀p∈gl'++R,∃nd,Qf q [] p=some nd:=fun p hp=>hall p (pm2.mem_iff.2 hp)
   have hglp: ∀p∈gl',∃s,p=pp s:=fun p hp=>by
    obtain⟨nd2,h2⟩:=hin p (zZ _ hp);obtain⟨s2,rfl,_⟩:=bL h2;exact⟨s2,rfl⟩
   obtain⟨H15,e15,dn⟩:=zIu (dy (M+2)) n (by omega) ti hq ch14 hglp (by omega) (by omega) hql hA14 rn13 wx13 pm1 hGR fr1 frn (fun p hp=>hin p (qC _ hp));rw[con13]at dn;refine⟨0,H15, ?_,rfl,dn.mono (by omega) (by omega)⟩;simp(maxSteps:=999999)(disch:=omega) only[f52,eZ,b1,b2,b3,cbx,l2,l6,mkM,b4,bs,b5,b6,e7,k2.ld,l2',h10,b8,e9,b10,hdf,e11,x11l,l2b,lr,b12,hcd,qL,nth,e14',t00,k614,vL g14 lul,e15]
open Go.Nd (mayK putP delP lookP)
def wC (H:AH)(At M L:Nat)(kv:Kvs):Prop:= ∃d c dr root es q last,dr= .nilSlice/\isCell c=true/\TI H At M d c root es q last dr/\(∀s nd,qV s q=some nd->s<=last)/\q.length<=last/\last<=L/\zGR q root kv
theorem wC.prs {H H':AH}{At M L:Nat}{kv:Kvs}(h:wC H At M L kv)(s:Prs H H'):wC H' At M L kv:=by
 obtain⟨d,c,_,root,es,q,last,rfl,hc,ti,h2⟩:=h;exact⟨d,c,_,root,es,q,last,rfl,hc,ti.prs s,h2⟩
theorem wC.up {H:AH}{At M L L':Nat}{kv:Kvs}(h:wC H At M L kv)(hl:L<=L'):wC H At M L' kv:=by
 obtain⟨d,c,_,root,es,q,last,rfl,hc,ti,h2,h3,h4,h5⟩:=h;exact⟨d,c,_,root,es,q,last,rfl,hc,ti,h2,h3,by omega,h5⟩
theorem zJ3.treeI {H0 H':AH}{At M low top:Nat}{d c:AV}{kv:Kvs}(h:zJ3 H0 H' At M d c .nilSlice low top kv)(hc:isCell c=true):wC H' At M top kv/\Stp (fun B=>B=At\/B=M) H0 H':=by
 obtain⟨root,es,q,last,h1,h2,h3,h4,h5,h6,h7⟩:=h;exact⟨⟨d,c,_,root,es,q,last,rfl,hc,h1,h3,h4,h6,h7⟩,h2⟩
theorem TI.stp {S:Nat->Prop}{H H':AH}{At M last:Nat}{d c dr:AV}{root:Ptr}{es:List (AV×AV)}{q:PN}(h:TI H At M d c root es q last dr)(s:Stp S H H')(hA: ¬S At)(hM: ¬S M)(hN: ∀kv∈es,∀B,xZ kv.2 B-> ¬S B):TI H' At M d c root es q last dr:=by
 refine⟨s.ok,by rw[s.keep _ (h.ok.lt h.gT) hA];exact h.gT,by rw[s.keep _ (h.ok.lt h.gM) hM];exact h.gM, ?_,h.hd,h.few⟩;exact h.pq.frame fun kv hkv nd hn=>hn.stp s (hN kv hkv)
def QD (k v:Str):Bool:=mayK k&&decide (v.length<=200)
theorem zKx (m n:Nat)(hm:300000000<=m)(hn:300000000<=n){H:AH}{At M L:Nat}{kv:Kvs}{k v:Str}(t:wC H At M L kv)(hL:L<=500000000)(hkv:kv.length<=1000000000):
  ∃H',f30 (dy (m+2)) n [.ptr At 0,S k,S v] H=some (.int .i64 ((if QD k v then 0 else 1:Nat):Int),H')/\wC H' At M (L+200) (if QD k v then putP k v kv else kv)/\Stp (fun B=>B=At\/B=M) H H':=by
 obtain⟨d,c,_,root,es,q,last,rfl,hc,ti,h2,h3,h4,h5⟩:=id t;obtain⟨H1,A4,b1,p1,g1,m1,n1⟩:=box ti.ok (.cells [S k] 9 1 false);obtain⟨H2,A5,b2,p2,g2,m2,n2⟩:=box p1.ok (.cells [S v] 9 1 false);have P2:=p1.trans p2;have ti2:=ti.prs P2;have x4:Box H2 A4 (S k):=⟨_,Prs.get p2 p1.ok g1⟩;have x5:Box H2 A5 (S v):=⟨_,g2⟩;have hno:=QL (dy (m+2)) n ti2;by_cases hp:QD k v=true
 ·obtain⟨hp1,hp2⟩:mayK k=true/\v.length<=200:=by simpa[QD]using hp
  obtain⟨e,H3,e3,hout⟩:=B0 m n hm hn (ed:= .put k v) ti2 h2 h3 (by omega) h5 hkv ⟨hp1,hp2⟩ ⟨x4,x5⟩;simp only[Ed.run]at hout;obtain⟨rfl,dn⟩:=hout;obtain⟨d1,d2⟩:=dn.treeI hc;simp only[Nd.mayK,z8,zE]at hp1;refine⟨H3, ?_,by rw[if_pos hp];exact d1.up (by omega),(P2.mono fun _ _ x=>x.elim).trans d2⟩;have a1: ¬((k.length:Nat):Int)< ((1:Nat):Int):=by omega
  have a2: ¬((40:Nat):Int)< ((k.length:Nat):Int):=by omega
  have a3: ¬((200:Nat):Int)< ((v.length:Nat):Int):=by omega
  have e3':f52 (dy (m+2)) n [.ptr At 0,S k, .func 53 [] [.ptr A4 0, .ptr A5 0]] H2=some (.int .i64 ((0:Nat):Int),H3):=e3;simp(maxSteps:=999999)(disch:=omega) only[f30,eZ,cbx,b1,b2,hno,x4.ld,x5.ld,a1,a2,a3,e3',hp]
 ·refine⟨H2, ?_,by rw[if_neg hp];exact(t.prs P2).up (by omega),P2.mono fun _ _ x=>x.elim⟩;have hx:((k.length:Nat):Int)< ((1:Nat):Int)\/((40:Nat):Int)< ((k.length:Nat):Int)\/((200:Nat):Int)< ((v.length:Nat):Int):=by
   simp only[QD,Nd.mayK,z8,zE]at hp;omega
  simp(maxSteps:=999999)(disch:=omega) only[f30,eZ,cbx,b1,b2,hno,x4.ld,x5.ld,hp];rw[if_pos (by simpa[or_assoc]using hx)];rfl
def YY (k:Str)(kv:Kvs):Nat:=if mayK k then(if(lookP k kv).isSome then 0 else 5)else 1
theorem zLr (m n:Nat)(hm:300000000<=m)(hn:300000000<=n){H:AH}{At M L:Nat}{kv:Kvs}{k:Str}(t:wC H At M L kv)(hL:L<=500000000)(hkv:kv.length<=1000000000):
  ∃H',f38 (dy (m+2)) n [.ptr At 0,S k] H=some (.int .i64 ((YY k kv:Nat):Int),H')/\wC H' At M (L+200) (if YY k kv=0 then delP k kv else kv)/\Stp (fun B=>B=At\/B=M) H H':=by
 obtain⟨d,c,_,root,es,q,last,rfl,hc,ti,h2,h3,h4,h5⟩:=id t;obtain⟨H1,A4,b1,p1,g1,m1,n1⟩:=box ti.ok (.cells [S k] 9 1 false);have ti1:=ti.prs p1;have x4:Box H1 A4 (S k):=⟨_,g1⟩;have hno:=QL (dy (m+2)) n ti1;by_cases hp:mayK k=true
 ·obtain⟨e,H3,e3,hout⟩:=B0 m n hm hn (V:=0) (ed:= .del k) ti1 h2 h3 (by omega) h5 hkv hp x4;have hp1:=hp;simp only[Nd.mayK,z8,zE]at hp1;have a1: ¬((k.length:Nat):Int)< ((1:Nat):Int):=by omega
  have a2: ¬((40:Nat):Int)< ((k.length:Nat):Int):=by omega
  have e3':f52 (dy (m+2)) n [.ptr At 0,S k, .func 56 [] [.ptr A4 0]] H1=some (.int .i64 ((e:Nat):Int),H3):=e3;have run:f38 (dy (m+2)) n [.ptr At 0,S k] H=some (.int .i64 ((e:Nat):Int),H3):=by
   simp(maxSteps:=999999)(disch:=omega) only[f38,eZ,cbx,b1,hno,x4.ld,a1,a2,e3',hp]
  cases hr:(Ed.del k).run kv with
  | none=>
   rw[hr]at hout;obtain⟨rfl,p3⟩:=hout;have hl:(lookP k kv).isSome=false:=by
    simp only[Ed.run]at hr;split at hr
    ·cases hr
    ·rename_i h;simpa using h
   have hde:YY k kv=5:=by simp only[YY,hp,if_true,hl,Bool.false_eq_true,if_false]
   refine⟨H3,by rw[hde];exact run,by rw[hde];exact(t.prs (p1.trans p3)).up (by omega),(p1.trans p3).mono fun _ _ x=>x.elim⟩
  | some kv'=>
   rw[hr]at hout;obtain⟨rfl,dn⟩:=hout;obtain⟨d1,d2⟩:=dn.treeI hc;have hl:(lookP k kv).isSome=true/\delP k kv=kv':=by
    simp only[Ed.run]at hr;split at hr
    ·rename_i h;exact⟨h,by simpa using hr⟩
    ·cases hr
   have hde:YY k kv=0:=by simp only[YY,hp,if_true,hl.1]
   refine⟨H3,by rw[hde];exact run,by rw[hde,if_pos rfl,hl.2];exact d1.up (by omega),(p1.mono fun _ _ x=>x.elim).trans d2⟩
 ·have hde:YY k kv=1:=by simp only[YY,hp,Bool.false_eq_true,if_false]
  refine⟨H1, ?_,by rw[hde];exact(t.prs p1).up (by omega),p1.mono fun _ _ x=>x.elim⟩;rw[hde];have hx:((k.length:Nat):Int)< ((1:Nat):Int)\/((40:Nat):Int)< ((k.length:Nat):Int):=by
   simp only[Nd.mayK,z8,zE]at hp;omega
  simp(maxSteps:=999999)(disch:=omega) only[f38,eZ,cbx,b1,hno,x4.ld];rw[if_pos (by simpa using hx)];rfl
end Go.Eng.Sh
end
section
namespace Go.Eng
def Stk (k e:Nat)(H:AH)(v:AV)(n:Nat)(l:List AV):Prop:=
 l.length=n*k/\((v= .nilSlice/\n=0)\/ ∃A cc cells g r,v= .slice A 0 n cc/\A<H.next/\H.h.get A=some (.cells cells e k g)/\cells.length=r*k/\n<=r/\cells.take (n*k)=l/\(cc=2*r\/(cc=1/\g=true)))
theorem Stk.row {k e n:Nat}{H:AH}{v:AV}{l:List AV}(h:Stk k e H v n l):Rw k H v n l:=by
 obtain⟨h0,⟨rfl,rfl⟩ | ⟨A,cc,cells,g,r,rfl,hA,hg,hl,hn,ht,_⟩⟩:=h
 ·exact⟨h0, .inl ⟨rfl,rfl⟩⟩
 ·have:=zW k hn;exact⟨h0, .inr (.inr ⟨A,0,cc,cells,e,k,g,rfl,hg,hA,by omega,by rw[List.drop_zero];exact ht⟩)⟩
theorem Stk.room {k:Nat}{cells:List AV}{g:Bool}{cc r:Nat}(hpos:0<k)(hl:cells.length=r*k)(hc:cc=2*r\/(cc=1/\g=true)):yK cells g k 0 cc k=r:=by
 rcases hc with rfl | ⟨rfl,rfl⟩
 ·simp only[yK,show((2*r) % 2).beq 0=true by rw[Nat.mul_mod_right];rfl,cond_true,Nat.mul_div_cancel_left r (show 0<2 by omega)]
 ·simp only[yK,show((1 % 2).beq 0)=false from rfl,cond_false,Nat.beq_refl,show Nat.beq 0 (1 / 2*k)=true from by simp,Bool.and_self,cond_true,y9,hl,Nat.sub_zero];exact Nat.mul_div_cancel _ hpos
theorem Stk.cut {k e n i:Nat}{H:AH}{v:AV}{l:List AV}(h:Stk k e H v n l)(hpos:0<k)(hi:i<=n)(κ:IntKind):
  ∃r,j0 k v none (some (.int κ (i:Nat))) none H=some r/\Stk k e H r i (l.take (i*k))/\ ∀B,Blk r B->Blk v B:=by
 have n1:=yQ κ (z:=((i:Nat):Int)) (by omega);simp only[zX]at n1;have hb:Nat.blt 0 k=true:=by rw[zL];exact hpos
 have hmul:i*k<=n*k:=zW _ hi;obtain⟨h0,⟨rfl,rfl⟩ | ⟨A,cc,cells,g,r,rfl,hA,hg,hl,hn,ht,hc⟩⟩:=h
 ·obtain rfl:i=0:=by omega
  exact⟨.nilSlice,by simp only[j0,yR,n1];simp,⟨by simp, .inl ⟨rfl,rfl⟩⟩,fun B hB=>hB⟩
 ·have b1:Nat.ble i r=true:=by rw[zT];omega
  have b2:Nat.ble 0 i=true:=by rw[zT];omega
  have hr:=Stk.room hpos hl hc;have hlt:(l.take (i*k)).length=i*k:=by rw[zG,h0];omega
  have htk:cells.take (i*k)=l.take (i*k):=by rw[<-ht,List.take_take,Nat.min_eq_left hmul]
  rcases hc with rfl | ⟨rfl,rfl⟩
  ·refine⟨.slice A 0 i (2*r), ?_,⟨hlt, .inr ⟨A,2*r,cells,g,r,rfl,hA,hg,hl,by omega,htk, .inl rfl⟩⟩,fun B hB=>by rw[Blk.slice.1 hB];exact Blk.slice.2 rfl⟩;have e2:(2*r) / 2=r:=Nat.mul_div_cancel_left r (show 0<2 by omega);simp only[j0,yR,n1,hg,hb,cond_true,ZS,hr,Option.getD_none,Option.getD_some,b1,b2,Bool.and_self,show((2*r) % 2).beq 0=true by rw[Nat.mul_mod_right];rfl,yE,Nat.zero_mul,Nat.add_zero,Nat.sub_zero,e2]
   cases Nat.beq r 0<;>rfl
  ·refine⟨.slice A 0 i 1, ?_,⟨hlt, .inr ⟨A,1,cells,true,r,rfl,hA,hg,hl,by omega,htk, .inr ⟨rfl,rfl⟩⟩⟩,fun B hB=>by rw[Blk.slice.1 hB];exact Blk.slice.2 rfl⟩;simp only[j0,yR,n1,hg,hb,cond_true,ZS,hr,Option.getD_none,Option.getD_some,b1,b2,Bool.and_self,show((1 % 2).beq 0)=false from rfl,cond_false,yE,show Nat.beq 0 0=true from rfl]
end Go.Eng
end
section
namespace Go.Eng.Sh
open Go.Nd (Ptr yH)
end Go.Eng.Sh
end
section
namespace Go.Eng
theorem VZ {H:AH}(hk:H.ok)(o:AObj)(K:Nat->AH->Rs):zBk H o K=K H.next (H.push o):=zEB hk o K
end Go.Eng
namespace Go.Eng.Sh
open Go.Nd (Ptr yH)
open Go.Nd (qQ Kvs Srt mayK putP delP lookP)
open Go.Bt
def Item (q:PN)(p:Ptr)(c:Kvs)(w:Nat):Prop:= ∃s nd h,∃t:Bt.Tr h,∃S lo hi,p=pp s/\qV s q=some nd/\jG (Qf q []) h nd t S/\Gen h lo hi t/\(0<h->nd.keys≠[])/\jA h t<=500/\c=con h t/\w=1+S.length
def zO7 (q:PN):List Ptr->Kvs->Nat->Prop
 | [],c,w=>c=[]/\w=0
 | p::ps,c,w=> ∃c1 c2 w1 w2,Item q p c1 w1/\zO7 q ps c2 w2/\c=c1++c2/\w=w1+w2
theorem zEi: ∀(q:PN) (T:List Ptr),T.Nodup->(∀p∈T,∃s nd,p=pp s/\qV s q=some nd)->T.length<=q.length
 | [],T,_,h=>by
  cases T with
  | nil=>simp
  | cons p T=>obtain⟨s,nd,_,e⟩:=h p (zB ..);cases e
 | (a,n)::q,T,hn,h=>by
  by_cases hm:pp a∈T
  ·have h1:=zEi q (T.erase (pp a)) (hn.erase _) fun p hp=>by
    obtain⟨h2,h3⟩:=(List.Nodup.mem_erase_iff hn).1 hp;obtain⟨s,nd,e,hs⟩:=h p h3;refine⟨s,nd,e, ?_⟩;simp only[qV]at hs;rw[if_neg (fun e2=>h2 (by rw[e,e2]))]at hs;exact hs
   rw[List.length_erase_of_mem hm]at h1;simp only[zF];omega
  ·have h1:=zEi q T hn fun p hp=>by
    obtain⟨s,nd,e,hs⟩:=h p hp;refine⟨s,nd,e, ?_⟩;simp only[qV]at hs;rw[if_neg (fun e2=>hm (by rw[e2,<-e];exact hp))]at hs;exact hs
   simp only[zF];omega
theorem JE {q:PN}{h s:Nat}{nd:Nd.Node}{t:Bt.Tr h}{S:List Ptr}(hs:qV s q=some nd)(rn:jG (Qf q []) h nd t S)(wr:WR h t)(nd0:(pp s::S).Nodup):zO7 q [pp s] (con h t) (1+S.length)/\1+S.length<=q.length:=by
 constructor
 ·refine⟨con h t,[],1+S.length,0,⟨s,nd,h,t,S,none,none,rfl,hs,rn,wr.gen,fun h0=> ?_,wr.sz,rfl,rfl⟩,⟨rfl,rfl⟩,by simp,by omega⟩
  cases h with
  | zero=>omega
  | succ h=>rw[rn.2.1];exact wr.2.1
 ·have:=zEi q (pp s::S) nd0 fun p hp=>by
   rcases List.mem_cons.1 hp with rfl | hp
   ·exact⟨s,nd,rfl,hs⟩
   ·obtain⟨nd2,h2⟩:=jG.here rn p hp;obtain⟨s2,rfl,h3 | ⟨_,h3⟩⟩:=bL h2
    ·simp[qV]at h3
    ·exact⟨s2,nd2,rfl,h3⟩
  simp only[zF]at this;omega
end Go.Eng.Sh
end
section
namespace Go.Eng
end Go.Eng
namespace Go.Eng.Sh
open Go.Nd (Ptr yH qQ Kvs Srt mayK putP delP lookP)
open Go.Bt
theorem TI.hold {H:AH}{At M last:Nat}{d c dr:AV}{root:Ptr}{es:List (AV×AV)}{q:PN}(ti:TI H At M d c root es q last dr): ∀kv∈es,∀B,xZ kv.2 B->B<H.next:=fun kv hkv B hB=>by
 obtain⟨nd2,hn2⟩:=ti.pq.mem kv hkv;exact hn2.lt hB
open Go.Nd (be zKI encP)
theorem zGt: ∀(i n:Nat),be (i+1) n=UInt8.ofNat (n / 256 ^ i)::be i n
 | 0,n=>by simp[be]
 | i+1,n=>by
  rw[be,zGt i (n / 256),Nat.div_div_eq_div_mul,Nat.mul_comm 256,<-Nat.pow_succ];rfl
theorem zKh {c m:List AV}{o:Nat}{x:AV}(h:o<c.length):(c.take (o+1)++m).set o x=c.take o++(x::m):=by
 have hl:(c.take o).length=o:=by simp;omega
 rw[fX c o h,List.append_assoc,List.set_append_right _ _ (by omega),hl];simp
theorem zMu (D:Dyn)(n:Nat){H:AH}(hk:H.ok){A off k cc:Nat}{c:List AV}{e:TypeId}{g:Bool}(z:Nat)(hA:H.h.get A=some (.cells c e 1 g))(hc:off+k<=c.length)(hkk:k<=8)(hn:100<=n):
  ∃H',f67 D n [.slice A off k cc, .int .u64 (z:Nat)] H=some (.tuple [],H')/\H'.h.get A=some (.cells (c.take off++(j6 (be k z)++c.drop (off+k))) e 1 g)/\Stp (fun B=>B=A) H H'/\H'.next=H.next:=by
 have hlt:=hk.lt hA;have key:=kI (b:=zFo D n) k (fun i vs H'=>vs=[.slice A off k cc, .int .u64 (z:Nat), .int .i64 (k:Nat), .int .i64 (i:Nat)]/\i<=k/\H'.h.get A=some (.cells (c.take (off+(k - i))++(j6 (be i z)++c.drop (off+k))) e 1 g)/\Stp (fun B=>B=A) H H'/\H'.next=H.next)
  (fun i vs H' hi ⟨hvs,hik,hg,hst,hnx⟩=>by
   subst hvs;have hb:Nat.blt (k - 1 - i) k=true:=by rw[zL];omega
   have hsub:(((k:Nat):Int) - 1 - (i:Int))=((k - 1 - i:Nat):Int):=by omega
   have hix:jB 1 (.slice A off k cc) (.int .i64 ((k - 1 - i:Nat):Int))=some (.ptr A (off+(k - 1 - i))):=by
    simp only[jB,yQ _ (show(0:Int)<=((k - 1 - i:Nat):Int)by omega),zX,hb,cond_true,yE,Nat.mul_one]
   have hst1:=Q7 (x:= .int .u8 ((((z / 256 ^ i % 256:Nat):Nat)):Int)) (o:=off+(k - 1 - i)) hg (by decide) rfl (by simp[j6,Nd.be_length];omega);have hcell:(c.take (off+(k - i))++(j6 (be i z)++c.drop (off+k))).set (off+(k - 1 - i)) (.int .u8 (((z / 256 ^ i % 256:Nat)):Int))=c.take (off+(k - (i+1)))++(j6 (be (i+1) z)++c.drop (off+k)):=by
    rw[show off+(k - i)=off+(k - 1 - i)+1 by omega,zKh (by omega),zGt,show k - (i+1)=k - 1 - i by omega];simp[j6]
   have hsh:((z:Nat):Int) / 2 ^ (8*i)=((z / 256 ^ i:Nat):Int):=by
    rw[<-zEh];simp
   refine⟨_,H'.put A (.cells (c.take (off+(k - (i+1)))++(j6 (be (i+1) z)++c.drop (off+k))) e 1 g), ?_,rfl,by omega,by rw[AH.put_get,if_pos rfl], ?_,hnx⟩
   ·rw[hcell]at hst1;have hsh':=XE .u64 .i64 (a:=(z:Nat)) (s:=8*i) (by omega) (by simp[IntKind.bits];omega);rw[hsh]at hsh';have h8:(((8:Nat):Int)*(i:Int))=((8*i:Nat):Int):=by omega
    have hw:IntKind.wrap .u8 ((z / 256 ^ i:Nat):Int)=((z / 256 ^ i % 256:Nat):Int):=by rw[wrap_u8];omega
    have h1:((k:Nat):Int) - ((1:Nat):Int) - (i:Int)=((k - 1 - i:Nat):Int):=by omega
    simp(disch:=omega) only[zFo,ev,lnSl,h1,hix,h8,hsh',hw,hst1];simp[hi]
   ·exact hst.put (by omega) _ (.inr rfl)) n _ H ⟨rfl,Nat.zero_le _,by simpa[be,j6]using hA,Stp.refl hk,rfl⟩ (by omega)
 obtain⟨m,vs',H',h1,rfl,_,h3,h4,h5⟩:=key;refine⟨H', ?_,by simpa using h3,h4,h5⟩;have hl:qT (m+1) (zFo D n) [.slice A off k cc, .int .u64 (z:Nat), .int .i64 (k:Nat), .int .i64 (k:Nat)] H'=some (.exit 0 [],H'):=qU (by simp[zFo,ev]);rw[hl]at h1;simp only[f67,ev,lnSl,h1,zNm]
theorem zLj (p q:Ptr):eqA [6,6,10] (.agg (y5 p)) (.agg (y5 q))=some (decide (p=q)):=by
 obtain⟨a,b,c⟩:=p;obtain⟨a',b',c'⟩:=q;have h1:=fun x y=>aK .i64 x y
 have h2:=fun x y=>aK .u64 x y
 simp only[fF]at h1 h2;simp only[eqA,y5,cL,Nat.succ_eq_add_one,Nat.beq_refl,zF,zV,Bool.and_self,cond_true,wT,h1,h2];by_cases e1:a=a'<;>by_cases e2:b=b'<;>by_cases e3:c=c'<;>simp[e1,e2,e3]
theorem zIw (b:Bool):vI .eql (some b)=some (.bool b):=by simp only[vI,yU]
theorem zMG (D:Dyn)(n:Nat){H:AH}(hk:H.ok)(p:Ptr): ∃H',f66 D n [.agg (y5 p)] H=some (.bool (zKI p),H')/\Prs H H':=by
 refine⟨H.push (.cells (y5 p) 65 1 false), ?_,(Stp.refl hk).push _⟩;have hz:eqA [6,6,10] (.agg (y5 p)) (.agg (y5 ⟨0,0,0⟩))=_:=zLj p ⟨0,0,0⟩;obtain⟨a,b,c⟩:=p;simp only[y5]at hz;simp only[f66,ev,uG hk,y5,u5,takeN,Option.map_some,lg,jT,uN];by_cases h0:a=0
 ·subst h0;simp only[show((0:Nat):Int)=0 from rfl,if_true,hz,zIw,ev,zKI];simp
 ·simp only[show((0:Nat):Int)=0 from rfl,if_neg h0,ev,zKI];rfl
def Z (n:Nat):List AV:=List.replicate n (.int .u8 ((0:Nat):Int))
theorem rep16:rep 16 [.int .u8 ((0:Nat):Int)]=Z 16:=rfl
theorem zA7 (D:Dyn)(n:Nat){H:AH}(hk:H.ok){A off k cc:Nat}{pre seg post:List AV}{e:TypeId}{g:Bool}(z:Nat)(hA:H.h.get A=some (.cells (pre++(seg++post)) e 1 g))(hp:pre.length=off)(hs:seg.length=k)(hkk:k<=8)(hn:100<=n):
  ∃H',f67 D n [.slice A off k cc, .int .u64 (z:Nat)] H=some (.tuple [],H')/\H'.h.get A=some (.cells (pre++(j6 (be k z)++post)) e 1 g)/\Stp (fun B=>B=A) H H'/\H'.next=H.next:=by
 obtain⟨H',h1,h2,h3⟩:=zMu D n hk (cc:=cc) (k:=k) (off:=off) z hA (by simp;omega) hkk hn;refine⟨H',h1, ?_,h3⟩;have hd:(pre++(seg++post)).drop (off+k)=post:=by rw[<-List.append_assoc,List.drop_left' (by rw[zI];omega)]
 rw[List.take_left' hp,hd]at h2;exact h2
theorem slA (A lo hi:Nat)(h1:lo<=hi)(h2:hi<=16)(h3:lo<16):gW 16 1 (.ptr A 0) (some (.int .i64 (lo:Nat))) (some (.int .i64 (hi:Nat))) none=some (.slice A lo (hi - lo) (2*(16 - lo))):=by
 have e1:Nat.ble hi 16=true:=by rw[zT];exact h2
 have e2:Nat.ble lo hi=true:=by rw[zT];exact h1
 have e3:Nat.beq 16 lo=false:=by rw[Bool.eq_false_iff];intro h;have:=Nat.eq_of_beq_eq_true h;omega
 simp[gW,yR,yQ,ZS,e1,e2,e3,yE,show((32 % 2).beq 0)=true from rfl,show(32 / 2).beq lo=false from e3,show Nat.blt 0 1=true from rfl]
theorem zMf (A:Nat):gW 16 1 (.ptr A 0) none (some (.int .i64 ((4:Nat):Int))) none=some (.slice A 0 4 32):=rfl
theorem zMe (A:Nat):gW 16 1 (.ptr A 0) (some (.int .i64 ((8:Nat):Int))) none none=some (.slice A 8 8 16):=rfl
theorem zMd (A:Nat):gW 16 1 (.ptr A 0) none none none=some (.slice A 0 16 32):=rfl
theorem zFY (D:Dyn)(n:Nat){H:AH}(hk:H.ok){p:Ptr}(hp:zKI p=true)(hs:Nd.sumOk p)(hn:100<=n): ∃H',f49 D n [.agg (y5 p)] H=some (.tuple [S (encP p), .int .i64 (0:Nat)],H')/\Prs H H':=by
 have hP:Prs H (H.push (.cells (y5 p) 65 1 false)):=(Stp.refl hk).push _;obtain⟨H2,h2,hP2⟩:=zMG D n hP.ok p;have hd':u5 (y5 p) 0 3=some (y5 p):=rfl;have h0: ∃a b s:Nat,p=⟨a,b,s⟩/\a<4294967296/\b<4294967296/\s<18446744073709551616:=by
  obtain⟨a,b,s⟩:=p;simp only[Nd.sumOk]at hs;have h1:0<=a/\a<8192/\0<=b/\b<=2147483647:=by
   simp only[zKI]at hp;split at hp
   ·simp only[z8,zE]at hp;omega
   ·simp only[z8,zE]at hp;omega
  exact⟨a.toNat,b.toNat,s.toNat,by congr 1<;>omega,by omega,by omega,by omega⟩
 obtain⟨a,b,s,rfl,ha,hb,hss⟩:=h0;have hw: ∀x:Nat,x<18446744073709551616->IntKind.wrap .u64 (x:Int)=(x:Int):=fun x hx=>by rw[wrap_u64];omega
 have hP3:Prs H2 (H2.push (.cells (Z 16) 131 1 false)):=(Stp.refl hP2.ok).push _;have hB:(H2.push (.cells (Z 16) 131 1 false)).h.get H2.next=some (.cells ([]++(Z 4++Z 12)) 131 1 false):=AH.push_get_eq _ _
 have hn3:(H2.push (.cells (Z 16) 131 1 false)).next=H2.next+1:=rfl
 generalize hH3:H2.push (.cells (Z 16) 131 1 false)=H3 at hP3 hB hn3;obtain⟨H4,e4,g4,st4,n4⟩:=zA7 D n hP3.ok (cc:=32) (k:=4) (off:=0) a hB rfl (by simp[Z]) (by omega) hn;rw[show[]++(j6 (be 4 a)++Z 12)=j6 (be 4 a)++(Z 4++Z 8)from rfl]at g4;obtain⟨H5,e5,g5,st5,n5⟩:=zA7 D n st4.ok (cc:=24) (k:=4) (off:=4) b g4 (by simp[j6,Nd.be_length]) (by simp[Z]) (by omega) hn;rw[<-List.append_assoc,show Z 8=Z 8++[]from rfl]at g5;obtain⟨H6,e6,g6,st6,n6⟩:=zA7 D n st5.ok (cc:=16) (k:=8) (off:=8) s g5 (by simp[j6,Nd.be_length]) (by simp[Z]) (by omega) hn;have hx3:H3.h.get H.next=some (.cells (y5 ⟨a,b,s⟩) 65 1 false):=hP3.get hP2.ok (hP2.get hP.ok (AH.push_get_eq _ _))
 have hlt2:H.next<H2.next:=by have:=hP2.next;rw[AH.push_next]at this;omega
 have hx4:H4.h.get H.next=some (.cells (y5 ⟨a,b,s⟩) 65 1 false):=by rw[st4.keep _ (by have:=hP3.next;omega) (by omega)];exact hx3
 have hx5:H5.h.get H.next=some (.cells (y5 ⟨a,b,s⟩) 65 1 false):=by rw[st5.keep _ (by have:=hP3.next;omega) (by omega)];exact hx4
 have hbytes:j6 (be 4 a)++j6 (be 4 b)++(j6 (be 8 s)++[])=j6 (encP ⟨a,b,s⟩):=by simp[encP,j6]
 rw[hbytes]at g6;have hcv:zD6 (.slice H2.next 0 16 32) H6=some (S (encP ⟨a,b,s⟩)):=ZK ⟨by simp[j6,Nd.encP_length], .inr (.inr ⟨_,_,_,_,_,_,_,rfl,g6,by have:=(st6.ok).lt g6;exact this,by simp[j6,Nd.encP_length],by simp[zK,j6,Nd.encP_length]⟩)⟩ (by simp)
 refine⟨H6, ?_, ?_⟩
 ·simp only[f49,ev,uG hk,hd',Option.map_some,h2,hp];simp only[ev,uG hP2.ok,Bool.not_true,Bool.false_eq_true,if_false,rep16,hH3,zMf,zMe,zMd,slA _ 4 8 (by omega) (by omega) (by omega),qM hx3,qM hx4,qM hx5,y5,hw a (by omega),hw b (by omega),hw s (by omega),e4,e5,e6,hcv]
 ·have hst:Stp (fun B=>B=H2.next) H3 H6:=(st4.trans st5).trans st6
  exact(hP.trans hP2).trans (hP3.fresh hst (fun A hA=>by omega))
end Go.Eng.Sh
end
section
namespace Go.Eng
open Go.Nd (Kvs Srt)
theorem ltS_zero: ∀(a k:Str),ltS a (k++[0])=(decide (a=k)||ltS a k)
 | [],[]=>rfl
 | [],_::_=>by simp[ltS,Op.bytesLess]
 | a::l,[]=>by
  have h:l.length=l.length:=rfl
  cases l with
  | nil=>simp[ltS,Op.bytesLess]
  | cons b l=>simp[ltS,Op.bytesLess]
 | a::l,b::k=>by
  have ih:=ltS_zero l k;simp only[ltS,List.cons_append,Op.bytesLess]at ih⊢;rw[ih];by_cases e:a=b
  ·subst e;simp
  ·have hb:(a==b)=false:=by simp[e]
   simp[e,hb]
end Go.Eng
namespace Go.Eng.Sh
open Go.Nd (Ptr yH qQ Kvs Srt mayK putP delP lookP)
open Go.Bt
def prV (p:Str×Str):List AV:=[S p.1,S p.2]
def XU (H:AH)(v:AV)(l:Kvs):Prop:=Rw 2 H v l.length (l.flatMap prV)
theorem zBB: ∀(l:Kvs) (i:Nat) (h:i<l.length),((l.flatMap prV).drop (i*2)).take 2=prV l[i]
 | p::l,0,_=>rfl
 | p::l,i+1,h=>by
  rw[zP,show(i+1)*2=2+i*2 by omega,<-List.drop_drop];exact zBB l i (by simpa using h)
theorem XU.at {H:AH}{v:AV}{l:Kvs}(h:XU H v l){i:Nat}(hi:i<l.length): ∃A o,(∀κ (z:Int),z=(i:Int)->jB 2 v (.int κ z)=some (.ptr A o))/\Eng.ldN 2 (.ptr A o) H=some (.agg (prV l[i]))/\Eng.ld1 (.ptr A o) H=some (S l[i].1)/\Eng.ld1 (.ptr A (o+1)) H=some (S l[i].2):=by
 obtain⟨A,o,c,e,sz,g,h1,h2,h3,h4,h5⟩:=Rw.at h hi;rw[zBB l i hi]at h5;have g0:c[o]? =some (S l[i].1):=by
  have:=congrArg (fun x=>x[0]?) h5;simpa[prV]using this
 have g1:c[o+1]? =some (S l[i].2):=by
  have:=congrArg (fun x=>x[1]?) h5;simpa[prV]using this
 exact⟨A,o,h1,by rw[WK h2 h4,h5],QU h2 g0,QU h2 g1⟩
def behind (kv:Kvs):Nat->Str
 | 0=>[]
 | i+1=>(kv.getD i ([],[])).1++[0]
end Go.Eng.Sh
end
section
namespace Go.Eng
theorem dO (n A off:Nat)(k:IntKind){z:Int}(i:Nat)(hz:z=(i:Int))(h:i<n):QW n 1 (.ptr A off) (.int k z)=some (.ptr A (off+i)):=by
 subst hz;have n1:=yQ k (z:=((i:Nat):Int)) (by omega);simp only[zX]at n1;have hb:Nat.blt i n=true:=by rw[zL];exact h
 simp only[QW,n1,hb,cond_true,yE,Nat.mul_one]
end Go.Eng
namespace Go.Eng.Sh
open Go.Nd (Ptr yH qQ Kvs Srt mayK putP delP lookP)
open Go.Bt
theorem zE1 (x:AV): ∀n,rep n [x]=List.replicate n x
 | 0=>rfl
 | n+1=>by rw[rep,zE1 x n,List.replicate_succ];rfl
theorem zKE (D:Dyn)(n:Nat)(hn:100<=n){H:AH}(hk:H.ok)(Ad od:Nat){c:AV}(hc:isCell c=true): ∃H' At M,f25 D n [.ptr Ad od,c, .agg (y5 pZ)] H=some (.tuple [.ptr At 0, .int .i64 ((0:Nat):Int)],H')/\Prs H H'/\H.next<=At/\H.next<=M/\wC H' At M 0 []:=by
 obtain⟨H1,A5,b1,p1,g1,m1,n1⟩:=box hk (.cells (y5 pZ) 65 1 false);obtain⟨H2,e2,p2⟩:=zFY D n p1.ok (p:=pZ) rfl (by simp[Nd.sumOk,pZ]) hn;obtain⟨H3,M,b3,p3,g3,m3,n3⟩:=box p2.ok (.map [10] []);obtain⟨H4,At,b4,p4,g4,m4,n4⟩:=box p3.ok (.cells (u4 (.ptr Ad od) c pZ M 0 .nilSlice) 107 1 false);have N1:=p1.next;have N2:=p2.next;have N3:=p3.next
 have P12:=p1.trans p2;refine⟨H4,At,M, ?_,(P12.trans p3).trans p4,by omega,by omega,⟨_,_,_,_,_,[],0,rfl,hc,⟨p4.ok,g4,Prs.get p4 p3.ok g3,trivial,⟨_,_,rfl⟩,by simp⟩,fun s nd h=>by simp[qV]at h,by simp,by omega, .inl ⟨rfl,rfl⟩⟩⟩;have r1:ldN 3 (.ptr A5 0) H1=some (.agg (y5 pZ)):=by rw[qR g1];rfl
 have r2:ldN 3 (.ptr A5 0) H2=some (.agg (y5 pZ)):=by rw[qR (Prs.get p2 p1.ok g1)];rfl
 have r3:ld1 (.ptr A5 0) H2=some (.int .i64 ((0:Nat):Int)):=by rw[qM (Prs.get p2 p1.ok g1)];rfl
 have t00: ¬(((0:Nat):Int)≠((0:Nat):Int)):=by omega
 have h01: ¬((0:Nat):Int)=((1:Nat):Int):=by omega
 have bs:jT [(0,1),(1,1),(2,3),(5,1),(6,1),(7,1)] [.nilPtr, .nilPtr, .int .i64 ((0:Nat):Int), .int .i64 ((0:Nat):Int), .int .u64 ((0:Nat):Int), .nilMap, .int .u64 ((0:Nat):Int), .nilSlice] [(0, .ptr Ad od),(1,c),(2, .agg (y5 pZ)),(3, .map M)]=some (.agg (u4 (.ptr Ad od) c pZ M 0 .nilSlice)):=by
  simp only[jT,uN,zHy,yM hc];rfl
 simp(maxSteps:=999999)(disch:=omega) only[f25,eZ,b1,cq,r1,e2,qL,nth,t00,r3,h01,r2,mkM,b3,bs,b4]
theorem wC.lt {H:AH}{At M L:Nat}{kv:Kvs}(h:wC H At M L kv):At<H.next/\M<H.next:=by
 obtain⟨d,c,_,root,es,q,last,rfl,hc,ti,_⟩:=h;exact⟨ti.ok.lt ti.gT,ti.ok.lt ti.gM⟩
theorem srt_ext: ∀ {l m:Kvs},Srt l->Srt m->(∀k,lookP k l=lookP k m)->l=m
 | [],[],_,_,_=>rfl
 | [],(a,b)::m,_,_,h=>by have:=h a;simp[lookP]at this
 | (a,b)::l,[],_,_,h=>by have:=h a;simp[lookP]at this
 | (a,b)::l,(c,d)::m,hl,hm,h=>by
  have key: ∀ {a c:Str} {b d:Str} {l m:Kvs},Srt ((a,b)::l)->Srt ((c,d)::m)->(∀k,lookP k ((a,b)::l)=lookP k ((c,d)::m))->ltS a c=true->False:=fun {a c b d l m} hl hm h hac=>by
   have h1:=h a;have hc:c≠a:=fun e=>(wY hac) e.symm
   simp only[lookP,if_true,if_neg hc]at h1;have:lookP a m=none:=Nd.look_none fun p hp e=>by
    have:=y8 hac (hm.1 p hp);rw[e,qY]at this;cases this
   rw[this]at h1;cases h1
  have e:a=c:=xT (by
   cases hx:ltS a c with
   | false=>rfl
   | true=>exact(key hl hm h hx).elim) (by
   cases hx:ltS c a with
   | false=>rfl
   | true=>exact(key hm hl (fun k=>(h k).symm) hx).elim)
  subst e;have hb:=h a;simp only[lookP,if_true,z7]at hb;subst hb;rw[srt_ext hl.2 hm.2 fun k=>by
   have:=h k;simp only[lookP]at this;by_cases e:a=k
   ·subst e;have n1:lookP a l=none:=Nd.look_none fun p hp e=>by
     have:=hl.1 p hp;rw[e,qY]at this;cases this
    have n2:lookP a m=none:=Nd.look_none fun p hp e=>by
     have:=hm.1 p hp;rw[e,qY]at this;cases this
    rw[n1,n2]
   ·rwa[if_neg e,if_neg e]at this]
end Go.Eng.Sh
end
section
namespace Go.Eng
theorem yN.stk {k e n:Nat}{H:AH}{v:AV}{l:List AV}(h:yN k e H v n l): ∃e',Stk k e' H v n l:=by
 rcases h with⟨h0,⟨rfl,rfl⟩ | ⟨A,rfl,hA,hg⟩⟩ | ⟨h0,A,e',g,rfl,hA,hg⟩
 ·exact⟨e,h0, .inl ⟨rfl,rfl⟩⟩
 ·exact⟨e,h0, .inr ⟨A,1,l,true,n,rfl,hA,hg,h0,Nat.le_refl _,zK (by omega), .inr ⟨rfl,rfl⟩⟩⟩
 ·exact⟨e',h0, .inr ⟨A,2*n,l,g,n,rfl,hA,hg,h0,Nat.le_refl _,zK (by omega), .inl rfl⟩⟩
theorem yN.hi {k e n i:Nat}{H:AH}{v:AV}{l:List AV}(h:yN k e H v n l)(hpos:0<k)(hi:i<=n): ∃r,j0 k v none (some (.int .i64 (i:Nat))) none H=some r/\Rw k H r i (l.take (i*k)):=by
 obtain⟨e',hs⟩:=h.stk;obtain⟨r,h1,h2,_⟩:=hs.cut hpos hi .i64;exact⟨r,h1,h2.row⟩
end Go.Eng
namespace Go.Eng.Sh
open Go.Nd (Ptr yH qQ Kvs Srt mayK putP delP lookP)
open Go.Bt
def PrG (H:AH)(v:AV)(l:Kvs):Prop:=yN 2 85 H v l.length (l.flatMap prV)/\(l=[]->v= .nilSlice)
theorem PrG.row {H:AH}{v:AV}{l:Kvs}(h:PrG H v l):XU H v l:=h.1.row
end Go.Eng.Sh
end
section
namespace Go.Eng
end Go.Eng
namespace Go.Eng.Sh
open Go.Nd (Ptr yH qQ Kvs Srt mayK putP delP lookP)
open Go.Bt
end Go.Eng.Sh
end
section
namespace Go.Bt
open Go.Nd (Str Kvs Ptr qQ Srt rising)
open Go.Eng (ltS y8 kU qY xT)
def jK {σ α:Type}(step:σ->α->Bool×σ):List α->σ->Bool×σ
 | [],s=>(true,s)
 | a::l,s=>bif (step s a).1 then jK step l (step s a).2 else(false,(step s a).2)
theorem zB3 {σ α:Type}(step:σ->α->Bool×σ)(l l':List α)(s:σ):jK step (l++l') s=bif (jK step l s).1 then jK step l' (jK step l s).2 else(false,(jK step l s).2):=by
 induction l generalizing s with
 | nil=>rfl
 | cons a l ih=>
  simp only[List.cons_append,jK]
  cases h:(step s a).1 with
  | true=>simp only[cond_true];exact ih _
  | false=>simp only[cond_false]
theorem VF {σ α β:Type}(step:σ->β->Bool×σ)(f:α->List β): ∀(l:List α) (s:σ),jK (fun s x=>jK step (f x) s) l s=jK step (l.flatMap f) s
 | [],_=>rfl
 | a::l,s=>by
  rw[zP,zB3,jK,VF]
def y6 (to k:Str):Bool:=to.isEmpty||ltS k to
def aI (ks:List Str)(to:Str)(first:Nat):Nat:=((ks.drop first).takeWhile (y6 to)).length+1
def zML (ks:List Str)(ps:List Ptr)(fr to:Str):List Ptr:=(ps.drop (y7 ks fr)).take (aI ks to (y7 ks fr))
def wQ (Q:Ptr->Option Nd.Node)(fr to:Str):Nat->Ptr->Nd.Node->List (Ptr×Nd.Node)
 | 0,p,nd=>[(p,nd)]
 | h+1,p,nd=>(p,nd)::(zML nd.keys nd.kids fr to).flatMap fun p'=>match Q p' with
  | some nd'=>wQ Q fr to h p' nd'
  | none=>[]
def xW (fr:Str)(x:Ptr×Nd.Node):Kvs:=bif x.2.leaf then(x.2.keys.zip x.2.vals).drop (Nd.whereN x.2 fr)else[]
def kL {σ:Type}(to:Str)(step:σ->Str×Str->Bool×σ)(s:σ)(x:Str×Str):Bool×σ:=bif y6 to x.1 then step s x else(false,s)
def wF {σ:Type}(fr to:Str)(step:σ->Str×Str->Bool×σ)(s:σ)(x:Ptr×Nd.Node):Bool×σ:=jK (kL to step) (xW fr x) s
theorem zIQ {to a b:Str}(h:ltS a b=true)(hb:y6 to b=true):y6 to a=true:=by
 simp only[y6,Bool.or_eq_true]at hb⊢;exact hb.imp id (y8 h)
theorem zCf {to a b:Str}(h:a=b\/ltS a b=true)(ha:y6 to a=false):y6 to b=false:=by
 rcases h with rfl | h
 ·exact ha
 ·cases hb:y6 to b with
  | false=>rfl
  | true=>rw[zIQ h hb]at ha;cases ha
theorem zDX {σ:Type}(to:Str)(step:σ->Str×Str->Bool×σ): ∀(l:Kvs) (s:σ),Srt l->(jK (kL to step) l s).2=(jK step (l.filter fun p=>y6 to p.1) s).2
 | [],_,_=>rfl
 | p::l,s,h=>by
  obtain⟨k,v⟩:=p
  cases ha:y6 to k with
  | true=>
   simp only[jK,kL,ha,cond_true,List.filter_cons,if_true]
   cases hs:(step s (k,v)).1 with
   | true=>simp only[cond_true];exact zDX to step l _ h.2
   | false=>rfl
  | false=>
   have:(((k,v)::l).filter fun p=>y6 to p.1)=[]:=by
    rw[List.filter_eq_nil_iff];intro q hq;rcases List.mem_cons.1 hq with rfl | hq
    ·simp[ha]
    ·have:=zCf (.inr (h.1 q hq)) ha;simp[this]
   rw[this];simp only[jK,kL,ha,cond_false]
def inP (fr to:Str)(p:Str×Str):Bool:= !ltS p.1 fr&&y6 to p.1
theorem U8 (fr:Str): ∀ {l:Kvs},Srt l->l.drop (Nd.whereN (qQ l) fr)=l.filter fun p=> !ltS p.1 fr
 | [],_=>by simp
 | (a,b)::l,h=>by
  rw[Nd.where_cons h]
  cases ha:ltS a fr with
  | true=>
   simp only[if_true,List.drop_succ_cons,List.filter_cons,ha,Bool.not_true,Bool.false_eq_true,if_false];exact U8 fr h.2
  | false=>
   simp only[Bool.false_eq_true,if_false,List.drop_zero]
   symm
   rw[List.filter_eq_self];intro q hq;rcases List.mem_cons.1 hq with rfl | hq
   ·simp[ha]
   ·have h1:=h.1 q hq
    cases hq':ltS q.1 fr with
    | false=>rfl
    | true=>rw[y8 h1 hq']at ha;cases ha
theorem zHF (fr:Str)(p:Ptr)(l:Kvs):xW fr (p,qQ l)=l.drop (Nd.whereN (qQ l) fr):=by
 simp only[xW,qQ,cond_true];congr 1
 induction l with
 | nil=>rfl
 | cons a l ih=>simp[ih]
theorem uT {α:Type}{f:α->Bool} : ∀ {l:List α} {x:α},l[(l.takeWhile f).length]? =some x->f x=false
 | [],_,h=>by simp at h
 | a::l,x,h=>by
  cases ha:f a with
  | true=>
   rw[List.takeWhile_cons_of_pos ha]at h;simp only[zF,List.getElem?_cons_succ]at h;exact uT h
  | false=>
   rw[List.takeWhile_cons_of_neg (by simp[ha])]at h;simp at h;rw[<-h];exact ha
theorem fW {α:Type}{f:α->Bool} : ∀ {l:List α} {i:Nat} {x:α},i< (l.takeWhile f).length->l[i]? =some x->f x=true
 | [],i,_,_,h=>by simp at h
 | a::l,i,x,hi,h=>by
  cases ha:f a with
  | true=>
   rw[List.takeWhile_cons_of_pos ha]at hi
   cases i with
   | zero=>simp at h;rw[<-h];exact ha
   | succ i=>exact fW (by simpa using hi) (by simpa using h)
  | false=>
   rw[List.takeWhile_cons_of_neg (by simp[ha])]at hi;simp at hi
theorem ZN (ks:List Str)(to:Str)(first:Nat)(h:first<=ks.length):first+aI ks to first<=ks.length+1:=by
 have:=(List.takeWhile_sublist (y6 to) (l:=ks.drop first)).length_le
 simp only[aI,zO]at this⊢;omega
theorem beyond {h:Nat}{lo hi:Bd}{to:Str}{i:Nat}{ks:List Str}{ts:List (Tr h)}(hw:Inn (WF h) lo hi (ks,ts))(hi':i<=ks.length): ∀p∈(ts.drop (i+aI ks to i)).flatMap (con h),y6 to p.1=false:=by
 obtain⟨h1,h2,h3⟩:=hw;simp only at h1 h2 h3;have hlen:=h3.len;have hle:=ZN ks to i hi';intro p hp;by_cases hc:i+aI ks to i<ts.length
 ·obtain⟨w,hwd⟩: ∃w,w=((ks.drop i).takeWhile (y6 to)).length:=⟨_,rfl⟩;have hcw:aI ks to i=w+1:=by rw[hwd];rfl
  have hlt:i+w<ks.length:=by omega
  have hk:(ks.drop i)[w]? =some ks[i+w]:=by rw[qG];exact zC hlt
  have ha:=uT (f:=y6 to) (l:=ks.drop i) (x:=ks[i+w]) (by rw[<-hwd];exact hk);have hkb:=h3.drop (zC hlt);have hd:=Nd.rising_drop h2 (i+w);rw[zN hlt,Nd.rising_cons]at hd;rw[hcw,<-Nat.add_assoc]at hp;have:=K4 (K5 h) hkb hd.2 (fun x hx=>⟨hd.1 x hx,(h1 x (List.mem_of_mem_drop hx)).2.2⟩) p hp;exact zCf this.1 ha
 ·rw[zQ (by omega)]at hp;simp at hp
def U9 {β:Type}(Q:Ptr->Option Nd.Node)(f:Ptr->Nd.Node->List β)(p:Ptr):List β:=match Q p with
 | some nd=>f p nd
 | none=>[]
theorem zAM {h:Nat}{Q:Ptr->Option Nd.Node}{fr to:Str}(ih: ∀ {p:Ptr} {nd:Nd.Node} {t:Tr h} {S:List Ptr} {lo hi:Bd},jG Q h nd t S->WF h lo hi t->
   (((wQ Q fr to h p nd).flatMap (xW fr)).filter fun p=>y6 to p.1)=(con h t).filter (inP fr to)/\((wQ Q fr to h p nd).flatMap (xW fr)).Sublist (con h t)/\(wQ Q fr to h p nd).length<=1+S.length):
  ∀ {ps:List Ptr} {ts:List (Tr h)} {S:List Ptr},kZ Q (jG Q h) ps ts S->(∀t∈ts,∃lo hi,WF h lo hi t)->
   (((ps.flatMap (U9 Q (wQ Q fr to h))).flatMap (xW fr)).filter fun p=>y6 to p.1)=(ts.flatMap (con h)).filter (inP fr to)/\((ps.flatMap (U9 Q (wQ Q fr to h))).flatMap (xW fr)).Sublist (ts.flatMap (con h))/\(ps.flatMap (U9 Q (wQ Q fr to h))).length<=S.length
 | [],[],_,e,_=>⟨rfl,List.Sublist.refl _,by simp⟩
 | p::ps,t::ts,_,⟨nd,S1,S2,a,b,c,e⟩,hw=>by
  subst e;obtain⟨lo,hi,wt⟩:=hw t (zB ..);obtain⟨i1,i2,i3⟩:=ih (p:=p) b wt;obtain⟨j1,j2,j3⟩:=zAM ih c fun t ht=>hw t (zA _ ht)
  simp only[zP,qD,List.filter_append,zI,zF,U9,a];refine⟨by rw[i1];exact congrArg _ j1,i2.append j2, ?_⟩;have:(ps.flatMap fun p=>U9 Q (wQ Q fr to h) p).length<=S2.length:=j3;simp only[U9]at this;omega
 | [],_::_,_,h,_=>h.elim
 | _::_,[],_,h,_=>h.elim
theorem zDh {h:Nat}{Q:Ptr->Option Nd.Node}{fr to:Str}(ih: ∀ {p:Ptr} {nd:Nd.Node} {t:Tr h} {S:List Ptr} {lo hi:Bd},jG Q h nd t S->WF h lo hi t->
   (((wQ Q fr to h p nd).flatMap (xW fr)).filter fun p=>y6 to p.1)=(con h t).filter (inP fr to)/\((wQ Q fr to h p nd).flatMap (xW fr)).Sublist (con h t)/\(wQ Q fr to h p nd).length<=1+S.length)
  {p:Ptr} {nd:Nd.Node} {t:Tr (h+1)} {S:List Ptr} {lo hi:Bd} (rn:jG Q (h+1) nd t S) (hw:Inn (WF h) lo hi t):
  (((wQ Q fr to (h+1) p nd).flatMap (xW fr)).filter fun p=>y6 to p.1)=(con (h+1) t).filter (inP fr to)/\((wQ Q fr to (h+1) p nd).flatMap (xW fr)).Sublist (con (h+1) t)/\(wQ Q fr to (h+1) p nd).length<=1+S.length:=by
 obtain⟨r1,r2,r3,r4⟩:=rn;obtain⟨ks,ts⟩:=t;simp only at r2;subst r2;have hle:=vQ nd.keys fr;obtain⟨i,hi'⟩: ∃i,i=y7 nd.keys fr:=⟨_,rfl⟩;obtain⟨c,hc⟩: ∃c,c=aI nd.keys to i:=⟨_,rfl⟩;obtain⟨Sa,Sb,x1,x2,rfl⟩:=r4.split i;obtain⟨Sc,Sd,x3,x4,rfl⟩:=x2.split c;have hts:ts=ts.take i++((ts.drop i).take c++(ts.drop i).drop c):=by rw[List.take_append_drop,List.take_append_drop]
 obtain⟨k1,k2,k3⟩:=zAM ih x3 fun x hx=>by
  obtain⟨j,hj,rfl⟩:=qK (List.mem_of_mem_drop (List.mem_of_mem_take hx));exact⟨_,_,KB.at hw.2.2 (zC hj)⟩
 have hv:wQ Q fr to (h+1) p nd=(p,nd)::(((nd.kids.drop i).take c).flatMap (U9 Q (wQ Q fr to h))):=by
  rw[hc,hi'];rfl
 have hlf:xW fr (p,nd)=[]:=by simp only[xW,r1,cond_false]
 have f1:((ts.take i).flatMap (con h)).filter (inP fr to)=[]:=by
  rw[List.filter_eq_nil_iff];intro q hq;have:=(ZW (key:=fr) hw).1 q (by rw[hi']at hq;exact hq);simp[inP,this]
 have f2:(((ts.drop i).drop c).flatMap (con h)).filter (inP fr to)=[]:=by
  rw[List.filter_eq_nil_iff];intro q hq;rw[List.drop_drop]at hq;have:=beyond (to:=to) hw (i:=i) (by rw[hi'];exact hle) q (by rw[hc]at hq;exact hq);simp[inP,this]
 have hcon:con (h+1) (nd.keys,ts)=(ts.take i).flatMap (con h)++(((ts.drop i).take c).flatMap (con h)++((ts.drop i).drop c).flatMap (con h)):=by
  rw[<-qD,<-qD,<-hts];rfl
 rw[hv];refine⟨?_, ?_, ?_⟩
 ·rw[hcon,List.filter_append,List.filter_append,f1,f2,List.nil_append,List.append_nil,zP,hlf,List.nil_append];exact k1
 ·rw[hcon,zP,hlf,List.nil_append];exact(k2.trans (List.sublist_append_left _ _)).trans (List.sublist_append_right _ _)
 ·simp only[zF,zI];omega
theorem zAL {Q:Ptr->Option Nd.Node}{fr to:Str}{p:Ptr}{nd:Nd.Node}{t:Kvs}{S:List Ptr}{lo hi:Bd}(rn:jG Q 0 nd t S)(hw:Lf lo hi t):
  (((wQ Q fr to 0 p nd).flatMap (xW fr)).filter fun p=>y6 to p.1)=(con 0 t).filter (inP fr to)/\((wQ Q fr to 0 p nd).flatMap (xW fr)).Sublist (con 0 t)/\(wQ Q fr to 0 p nd).length<=1+S.length:=by
 obtain⟨rfl,rfl⟩:=rn;have hv:wQ Q fr to 0 p (qQ t)=[(p,qQ t)]:=rfl;rw[hv,zP,List.flatMap_nil,List.append_nil,zHF];refine⟨?_,List.drop_sublist _ _,by simp⟩;rw[U8 fr hw.1,List.filter_filter];show List.filter _ t=List.filter (inP fr to) t;congr 1;funext q;simp only[inP,Bool.and_comm]
theorem zJ6 {Q:Ptr->Option Nd.Node}{fr to:Str} : ∀(h:Nat) {p:Ptr} {nd:Nd.Node} {t:Tr h} {S:List Ptr} {lo hi:Bd},jG Q h nd t S->WF h lo hi t->
  (((wQ Q fr to h p nd).flatMap (xW fr)).filter fun p=>y6 to p.1)=(con h t).filter (inP fr to)/\((wQ Q fr to h p nd).flatMap (xW fr)).Sublist (con h t)/\(wQ Q fr to h p nd).length<=1+S.length
 | 0,_,_,_,_,_,_,rn,w=>zAL rn w.1
 | h+1,_,_,_,_,_,_,rn,w=>zDh (fun a b=>zJ6 h a b) rn w.1
theorem KP {Q:Ptr->Option Nd.Node}{fr to:Str}{h:Nat}{p:Ptr}{nd:Nd.Node}{t:Tr h}{S:List Ptr}(rn:jG Q h nd t S)(w:WR h t):
  (((wQ Q fr to h p nd).flatMap (xW fr)).filter fun p=>y6 to p.1)=(con h t).filter (inP fr to)/\((wQ Q fr to h p nd).flatMap (xW fr)).Sublist (con h t)/\(wQ Q fr to h p nd).length<=1+S.length:=by
 cases h with
 | zero=>exact zAL rn w.1
 | succ h=>exact zDh (fun a b=>zJ6 h a b) rn w.1
theorem srt_sub {a b:Kvs}(h:a.Sublist b)(hb:Srt b):Srt a:=by
 induction h with
 | slnil=>exact hb
 | cons x _ ih=>obtain⟨k,v⟩:=x;exact ih hb.2
 | cons_cons x hs ih=>obtain⟨k,v⟩:=x;exact⟨fun q hq=>hb.1 q (hs.subset hq),ih hb.2⟩
theorem zAK {σ:Type}{Q:Ptr->Option Nd.Node}{fr to:Str}{h:Nat}{p:Ptr}{nd:Nd.Node}{t:Tr h}{S:List Ptr}(rn:jG Q h nd t S)(w:WR h t)(step:σ->Str×Str->Bool×σ)(s:σ):
  (jK (wF fr to step) (wQ Q fr to h p nd) s).2=(jK step ((con h t).filter (inP fr to)) s).2:=by
 obtain⟨h1,h2,_⟩:=KP (fr:=fr) (to:=to) (p:=p) rn w;have:=VF (kL to step) (xW fr) (wQ Q fr to h p nd) s;have e:wF fr to step=fun s x=>jK (kL to step) (xW fr x) s:=rfl
 rw[e,this,zDX to step _ s (srt_sub h2 (zM0 w)),h1]
def Vs (Q:Ptr->Option Nd.Node):Nat->Nd.Node->Prop
 | 0,nd=>nd.leaf=true/\nd.vals.length=nd.keys.length/\Nd.size nd<=500
 | h+1,nd=>nd.leaf=false/\nd.kids.length=nd.keys.length+1/\Nd.size nd<=500/\ ∀p∈nd.kids,∃nd',Q p=some nd'/\Vs Q h nd'
theorem zDg {h:Nat}{Q:Ptr->Option Nd.Node}(ih: ∀ {nd:Nd.Node} {t:Tr h} {S:List Ptr} {lo hi:Bd},jG Q h nd t S->WF h lo hi t->Vs Q h nd):
  ∀ {ps:List Ptr} {ts:List (Tr h)} {S:List Ptr},kZ Q (jG Q h) ps ts S->(∀t∈ts,∃lo hi,WF h lo hi t)-> ∀p∈ps,∃nd',Q p=some nd'/\Vs Q h nd'
 | [],[],_,_,_=>by simp
 | p::ps,t::ts,_,⟨nd,S1,S2,a,b,c,e⟩,hw=>fun p' hp=>by
  obtain⟨lo,hi,wt⟩:=hw t (zB ..);rcases List.mem_cons.1 hp with rfl | hp
  ·exact⟨nd,a,ih b wt⟩
  ·exact zDg ih c (fun t ht=>hw t (zA _ ht)) p' hp
 | [],_::_,_,h,_=>h.elim
 | _::_,[],_,h,_=>h.elim
theorem zJ5 {h:Nat}{Q:Ptr->Option Nd.Node}(ih: ∀ {nd:Nd.Node} {t:Tr h} {S:List Ptr} {lo hi:Bd},jG Q h nd t S->WF h lo hi t->Vs Q h nd)
  {nd:Nd.Node} {t:Tr (h+1)} {S:List Ptr} {lo hi:Bd} (rn:jG Q (h+1) nd t S) (hw:Inn (WF h) lo hi t) (hz:jA (h+1) t<=500):Vs Q (h+1) nd:=by
 have hs:=rn.size;obtain⟨r1,r2,r3,r4⟩:=rn;have hl:=hw.2.2.len;have hkl:=r4.len;refine⟨r1,by rw[hkl,hl,r2],by omega,zDg ih r4 fun x hx=> ?_⟩;obtain⟨j,hj,rfl⟩:=qK hx;exact⟨_,_,KB.at hw.2.2 (zC hj)⟩
theorem zDf {Q:Ptr->Option Nd.Node}{nd:Nd.Node}{t:Kvs}{S:List Ptr}(rn:jG Q 0 nd t S)(hz:jA 0 t<=500):Vs Q 0 nd:=by
 have hs:=rn.size;obtain⟨rfl,_⟩:=rn;exact⟨rfl,by show(List.map Prod.snd _).length=(List.map Prod.fst _).length;rw[qA,qA],by omega⟩
theorem zM2 {Q:Ptr->Option Nd.Node} : ∀(h:Nat) {nd:Nd.Node} {t:Tr h} {S:List Ptr} {lo hi:Bd},jG Q h nd t S->WF h lo hi t->Vs Q h nd
 | 0,_,_,_,_,_,rn,w=>zDf rn w.2.2
 | h+1,_,_,_,_,_,rn,w=>zJ5 (fun a b=>zM2 h a b) rn w.1 w.2.2.2
theorem zDe {Q:Ptr->Option Nd.Node}{h:Nat}{nd:Nd.Node}{t:Tr h}{S:List Ptr}(rn:jG Q h nd t S)(w:WR h t):Vs Q h nd:=by
 cases h with
 | zero=>exact zDf rn w.2.2
 | succ h=>exact zJ5 (fun a b=>zM2 h a b) rn w.1 w.2.2
end Go.Bt
end
section
namespace Go.Eng.Sh
open Go.Nd (Ptr yH qQ Kvs Srt mayK putP delP lookP)
open Go.Bt
def Adw (W:Nat->Prop)(H:AH)(W':Nat->Prop)(H':AH):Prop:=Stp W H H'/\ ∀B,W' B->W B\/H.next<=B
theorem zGh (D:Dyn)(n:Nat){H:AH}(hk:H.ok){v:AV}{l:List Str}(h:yN 1 9 H v l.length (l.map S))(hl:l.length<=1000000000):
  ∃v' H',f79 D n [v] H=some (v',H')/\Prs H H'/\yN 1 9 H' v' l.length (l.map S)/\ ∀B,Blk v' B->H.next<=B:=by
 by_cases h1:v= .nilSlice
 ·subst h1;exact⟨.nilSlice,H,rfl,Stp.refl hk,h,fun B hB=>(Blk.nil.1 hB).elim⟩
 ·refine dV D n hk h.row h1 (fun e=> ?_) hl;subst e;rcases h with⟨_,⟨h,_⟩ | ⟨_,h,_⟩⟩ | ⟨_,_,_,_,h,_⟩<;>cases h
theorem zLu (D:Dyn)(n:Nat){H:AH}(hk:H.ok){v:AV}{l:List Ptr}(h:yN 3 65 H v l.length (l.flatMap y5))(hl:l.length<=1000000000):
  ∃v' H',f118 D n [v] H=some (v',H')/\Prs H H'/\yN 3 65 H' v' l.length (l.flatMap y5)/\ ∀B,Blk v' B->H.next<=B:=by
 by_cases h1:v= .nilSlice
 ·subst h1;exact⟨.nilSlice,H,rfl,Stp.refl hk,h,fun B hB=>(Blk.nil.1 hB).elim⟩
 ·refine YB D n hk h.row h1 (fun e=> ?_) hl;subst e;rcases h with⟨_,⟨h,_⟩ | ⟨_,h,_⟩⟩ | ⟨_,_,_,_,h,_⟩<;>cases h
theorem hH {nd:Nd.Node}(h:Nd.size nd<=500):nd.keys.length<=500/\nd.vals.length<=500/\nd.kids.length<=500:=by
 have h1:=Nd.sumL_ge nd.keys;have h2:=Nd.sumL_ge nd.vals;simp only[Nd.size]at h;omega
theorem zKK (D:Dyn)(n:Nat){H:AH}{At M last s:Nat}{d c dr:AV}{root:Ptr}{es:List (AV×AV)}{q:PN}{nd:Nd.Node}(h:TI H At M d c root es q last dr)(hs:qV s q=some nd)(hz:Nd.size nd<=500):
  ∃v H',f100 D n [.ptr At 0, .agg (y5 (pp s))] H=some (.tuple [v, .int .i64 ((0:Nat):Int)],H')/\Prs H H'/\yC H' v nd/\ ∀B,xZ v B->H.next<=B:=by
 obtain⟨z1,z2,z3⟩:=hH hz;obtain⟨H1,A3,b1,p1,g1,m1,n1⟩:=box h.ok (.cells [.int .i64 ((1:Nat):Int), .int .i64 ((0:Nat):Int), .int .u64 (s:Nat)] 65 1 false);obtain⟨H2,A4,b2,p2,g2,m2,n2⟩:=box p1.ok (.cells [.bool false, .nilSlice, .nilSlice, .nilSlice] 111 1 false);have P2:=p1.trans p2;have h2:=h.prs P2;have hno:=QL D n h2;obtain⟨v,H3,e3,p3,nv,_⟩:=zA5 D n h2 hs;obtain⟨ks,vs,ps,rfl,w1,w2,w3⟩:=nv;obtain⟨H4,A6,b4,p4,g4,m4,n4⟩:=box p3.ok (.cells [.bool false, .nilSlice, .nilSlice, .nilSlice] 111 1 false);have hcells: ∀ {a b c:AV},Eng.isCell a=true->Eng.isCell b=true->Eng.isCell c=true->qP [.bool nd.leaf,a,b,c]=true:=fun ha hb hc=>by simp[qP,ha,hb,hc];rfl
 obtain⟨H5,e5,g5,s5,n5⟩:=qX p4.ok g4 (l':=[.bool nd.leaf,ks,vs,ps]) rfl (hcells w1.isCell w2.isCell w3.isCell);have e5':stN 4 (.ptr A6 0) (.agg [.bool nd.leaf,ks,vs,ps]) H4=some (qN,H5):=e5;have P5:Prs H3 H5:=p4.fresh s5 (fun B hB=>by omega);obtain⟨ks',H6,e6,p6,k1,f1⟩:=zGh D n P5.ok (w1.mono P5 (fun _ _ x=>x)) (by omega);have P6:=P5.trans p6;obtain⟨vs',H7,e7,p7,k2,f2⟩:=zGh D n P6.ok (w2.mono P6 (fun _ _ x=>x)) (by omega);have P7:=P6.trans p7;obtain⟨ps',H8,e8,p8,k3,f3⟩:=zLu D n P7.ok (w3.mono P7 (fun _ _ x=>x)) (by omega);have P8:=P7.trans p8;have Q8:Prs H2 H8:=p3.trans P8;have N1:=p1.next;have N2:=p2.next;have N3:=p3.next;have N4:=p4.next;have N5:=P5.next;have N6:=p6.next;have N7:=p7.next;have N8:=p8.next
 obtain⟨H9,e9,g9,s9,n9⟩:=qX P8.ok (Prs.get Q8 p2.ok g2) (l':=[.bool nd.leaf,ks',vs',ps']) rfl (hcells k1.isCell k2.isCell k3.isCell);have e9':stN 4 (.ptr A4 0) (.agg [.bool nd.leaf,ks',vs',ps']) H8=some (qN,H9):=e9;have nb: ∀ {v:AV},(∀B,Blk v B->H5.next<=B)-> ∀B,Blk v B-> ¬B=A4:=fun hv B hB=>by have:=hv B hB;omega
 refine⟨.agg [.bool nd.leaf,ks',vs',ps'],H9, ?_,(P2.trans Q8).fresh s9 (fun B hB=>by omega),⟨ks',vs',ps',rfl,((k1.mono p7 (fun _ _ x=>x)).mono p8 (fun _ _ x=>x)).mono s9 (nb f1),(k2.mono p8 (fun _ _ x=>x)).mono s9 (nb fun B hB=>by have:=f2 B hB;omega),k3.mono s9 (nb fun B hB=>by have:=f3 B hB;omega)⟩,fun B hB=> ?_⟩
 ·have hp:y5 (pp s)=[.int .i64 ((1:Nat):Int), .int .i64 ((0:Nat):Int), .int .u64 (s:Nat)]:=rfl;have e3':f73 D n [.ptr At 0, .agg [.int .i64 ((1:Nat):Int), .int .i64 ((0:Nat):Int), .int .u64 (s:Nat)]] H2=some (.tuple [.agg [.bool nd.leaf,ks,vs,ps], .int .i64 ((0:Nat):Int)],H3):=e3;have g32:=Prs.get p2 p1.ok g1;have r3:ldN 3 (.ptr A3 0) H2=some (.agg [.int .i64 ((1:Nat):Int), .int .i64 ((0:Nat):Int), .int .u64 (s:Nat)]):=by rw[qR g32];rfl
  have h10: ¬((1:Nat):Int)=((0:Nat):Int):=by omega
  have t00: ¬(((0:Nat):Int)≠((0:Nat):Int)):=by omega
  have ck: ∀ {H':AH} (i:Nat) {x:AV} (K:Rs),H'.h.get A6=some (.cells [.bool nd.leaf,ks,vs,ps] 111 1 false)->[.bool nd.leaf,ks,vs,ps][i]? =some x->aveq x x=true->chk (ld1 (.ptr A6 i) H') x K=K:=fun i x K g hi hx=>j9 (by rw[qM g];exact hi) hx
  have g6:=Prs.get p6 P5.ok g5;have g7:=Prs.get p7 P6.ok g6;have g8:=Prs.get p8 P7.ok g7;have ab:aveq (.bool nd.leaf) (.bool nd.leaf)=true:=by cases nd.leaf<;>rfl
  have bs:jT [(0,1),(1,1),(2,1),(3,1)] [.bool false, .nilSlice, .nilSlice, .nilSlice] [(0, .bool nd.leaf),(1,ks'),(2,vs'),(3,ps')]=some (.agg [.bool nd.leaf,ks',vs',ps']):=by
   simp only[jT,uN,zHy,yM k1.isCell,yM k2.isCell,yM k3.isCell];rfl
  have r9:ldN 4 (.ptr A4 0) H9=some (.agg [.bool nd.leaf,ks',vs',ps']):=vL g9 rfl;rw[hp];simp(maxSteps:=999999)(disch:=omega) only[f100,eZ,b1,b2,hno,qM g32,h10,r3,e3',qL,nth,b4,e5',t00,qM g5,e6,ck 0 _ g6 rfl ab,ck 2 _ g6 rfl (yJ w2.row),ck 3 _ g6 rfl (yJ w3.row),e7,ck 0 _ g7 rfl ab,ck 3 _ g7 rfl (yJ w3.row),e8,ck 0 _ g8 rfl ab,bs,e9',r9]
 ·rcases kD.1 hB with e | e | e
  ·have:=f1 B e;omega
  ·have:=f2 B e;omega
  ·have:=f3 B e;omega
theorem zIm (D:Dyn)(n:Nat){H:AH}{At M last:Nat}{d c dr:AV}{root:Ptr}{es:List (AV×AV)}{q:PN}(h:TI H At M d c root es q last dr):
  f59 D n [.ptr At 0] H=some (.int .i64 ((q.length:Nat):Int),H):=by
 have hno:=QL D n h;have l5:ld1 (.ptr At 5) H=some (.map M):=by rw[qM h.gT];rfl
 have hm:U6 (.map M) H=some (.int .i64 ((q.length:Nat):Int)):=by
  simp only[U6,h.gM,yE,h.pq.len];rfl
 simp(maxSteps:=999999)(disch:=omega) only[f59,eZ,hno,l5,hm]
theorem zHd (D:Dyn)(n:Nat){H:AH}{At M last:Nat}{d c dr:AV}{root:Ptr}{es:List (AV×AV)}{q:PN}(h:TI H At M d c root es q last dr):
  ∃H',f83 D n [.ptr At 0] H=some (.agg (y5 root),H')/\Prs H H':=by
 obtain⟨H1,A2,b1,p1,g1,m1,n1⟩:=box h.ok (.cells [.int .i64 ((0:Nat):Int), .int .i64 ((0:Nat):Int), .int .u64 ((0:Nat):Int)] 65 1 false);have h1:=h.prs p1;have hno:=QL D n h1;obtain⟨H2,e2,g2,s2,n2⟩:=qX p1.ok g1 (l':=y5 root) rfl rfl;have e2':stN 3 (.ptr A2 0) (.agg (y5 root)) H1=some (qN,H2):=e2;have l2:ldN 3 (.ptr At 2) H1=some (.agg (y5 root)):=by rw[qR h1.gT];rfl
 have r2:ldN 3 (.ptr A2 0) H2=some (.agg (y5 root)):=by rw[qR g2];rfl
 refine⟨H2, ?_,p1.fresh s2 (fun B hB=>by omega)⟩;simp(maxSteps:=999999)(disch:=omega) only[f83,eZ,b1,hno,l2,e2',r2]
structure Rdr (At N0 k:Nat)(root:Ptr)(Q:Ptr->Option Nd.Node)(G:AH->(Nat->Prop)->Prop):Prop where
 ok: ∀ {H W},G H W->H.ok
 lt: ∀ {H W},G H W-> ∀B,W B->B<H.next
 frame: ∀ {H H' W S},G H W->Stp S H H'->(∀B,S B->N0<=B/\ ¬W B)->G H' W
 root: ∀ {H W} (D:Dyn) (n:Nat),G H W-> ∃H',f83 D n [.ptr At 0] H=some (.agg (y5 root),H')/\Prs H H'
 dirty: ∀ {H W} (D:Dyn) (n:Nat),G H W->f59 D n [.ptr At 0] H=some (.int .i64 ((k:Nat):Int),H)
 load: ∀ {H W p nd} (m n:Nat),100000000<=m->100000000<=n->G H W->Q p=some nd->Nd.size nd<=500-> ∃v H' W',f100 (dy m) n [.ptr At 0, .agg (y5 p)] H=some (.tuple [v, .int .i64 ((0:Nat):Int)],H')/\G H' W'/\Adw W H W' H'/\yC H' v nd/\ ∀B,xZ v B->H.next<=B/\ ¬W' B
theorem Rdr.prs {At N0 k:Nat}{root:Ptr}{Q:Ptr->Option Nd.Node}{G:AH->(Nat->Prop)->Prop}(r:Rdr At N0 k root Q G){H H':AH}{W:Nat->Prop}(h:G H W)(s:Prs H H'):G H' W:=r.frame h s (fun _ x=>x.elim)
def GI0 (N0 At M:Nat)(root:Ptr)(q:PN)(H:AH)(W:Nat->Prop):Prop:=(∀B,¬W B)/\At<N0/\M<N0/\ ∃d c es last,TI H At M d c root es q last .nilSlice/\ ∀kv∈es,∀B,xZ kv.2 B->B<N0
theorem zE6 (N0 At M:Nat)(root:Ptr)(q:PN):Rdr At N0 q.length root (Qf q []) (GI0 N0 At M root q) where
 ok:=fun⟨_,_,_,_,_,_,_,ti,_⟩=>ti.ok
 lt:=fun⟨h,_⟩ B hB=>(h B hB).elim
 frame:=fun {H H' W S} ⟨h1,h2,h3,d,c,es,last,ti,h4⟩ s hS=>⟨h1,h2,h3,d,c,es,last,ti.stp s (fun e=>by have:=(hS _ e).1;omega) (fun e=>by have:=(hS _ e).1;omega) (fun kv hkv B hB e=>by have:=(hS _ e).1;have:=h4 kv hkv B hB;omega),h4⟩
 root:=fun D n ⟨_,_,_,_,_,_,_,ti,_⟩=>zHd D n ti
 dirty:=fun D n ⟨_,_,_,_,_,_,_,ti,_⟩=>zIm D n ti
 load:=fun {H W p nd} m n _ _ ⟨h1,h2,h3,d,c,es,last,ti,h4⟩ hq hz=>by
  obtain⟨s,rfl,hs⟩:=bL hq;have hs:qV s q=some nd:=by
   rcases hs with hs | ⟨_,hs⟩
   ·simp[qV]at hs
   ·exact hs
  obtain⟨v,H',e,p,nv,f⟩:=zKK (dy m) n ti hs hz;exact⟨v,H',W,e,⟨h1,h2,h3,d,c,es,last,ti.prs p,h4⟩,⟨p.mono fun _ _ x=>x.elim,fun B hB=> .inl hB⟩,nv,fun B hB=>⟨f B hB,h1 B⟩⟩
theorem zJa {H:AH}(hk:H.ok){A o e:Nat}{l:List AV}{x:AV}(h:H.h.get A=some (.cells l e 1 false))(hx:Eng.isCell x=true)(ho:o<l.length): ∃H',stN 1 (.ptr A o) x H=some (qN,H')/\H'.h.get A=some (.cells (l.set o x) e 1 false)/\Stp (fun B=>B=A) H H':=
 ⟨_,Q7 h (by decide) hx ho,by rw[AH.put_get,if_pos rfl],(Stp.refl hk).put (hk.lt h) _ (.inr rfl)⟩
theorem Stp.thru {S T:Nat->Prop}{H0 H H1:AH}(h:Stp S H0 H)(k:Stp T H H1)(f: ∀A,T A->H0.next<=A\/S A):Stp S H0 H1:=
 ⟨k.ok,Nat.le_trans h.next k.next,fun A hA hS=>by
  rw[k.keep A (zU hA h.next) (fun x=>by rcases f A x with y | y;omega;exact hS y),h.keep A hA hS]⟩
theorem Adw.refl {W:Nat->Prop}{H:AH}(hk:H.ok):Adw W H W H:=⟨Stp.refl hk,fun _ h=> .inl h⟩
theorem Adw.trans {W W' W'':Nat->Prop}{H H' H'':AH}(h:Adw W H W' H')(k:Adw W' H' W'' H''):Adw W H W'' H'':=
 ⟨Stp.thru h.1 k.1 fun A hA=>(h.2 A hA).symm,fun B hB=>by
  rcases k.2 B hB with e | e
  ·exact h.2 B e
  ·exact .inr (Nat.le_trans h.1.next e)⟩
structure Cns {σ α:Type}(A M N0:Nat)(enc:AH->(Nat->Prop)->α->List AV->Prop)(step:σ->α->Bool×σ)(I:Nat->Bool×σ->AH->(Nat->Prop)->Prop):Prop where
 ok: ∀ {b x H W},I b x H W->H.ok
 lt: ∀ {b x H W},I b x H W-> ∀B,W B->B<H.next/\N0<=B
 mono: ∀ {b b' x H W},I b x H W->b'<=b->I b' x H W
 frame: ∀ {b x H H' W S},I b x H W->Stp S H H'->(∀B,S B-> ¬W B)->I b x H' W
 run: ∀ {b s a az H W} (m:Nat),M<=m->I (b+1) (true,s) H W->enc H W a az-> ∃H' W',(dy (m+1)).yld A az H=some (.bool (step s a).1,H')/\I b (step s a) H' W'/\Adw W H W' H'
def encN (H:AH)(W:Nat->Prop)(x:Ptr×Nd.Node)(az:List AV):Prop:= ∃v,az=[.agg (y5 x.1),v]/\yC H v x.2/\Nd.size x.2<=500/\(x.2.leaf=true->x.2.vals.length=x.2.keys.length)/\ ∀B,xZ v B-> ¬W B
theorem zLC (m n:Nat){H:AH}(hk:H.ok)(p:Ptr): ∃H',callV (s84 (dy (m+1)) n).S (dy (m+1)) (.func 43 [] []) [.agg (y5 p)] H=some (.bool false,H')/\Prs H H':=by
 obtain⟨H1,A1,b1,p1,g1,m1,n1⟩:=box hk (.cells (y5 p) 65 1 false);refine⟨H1, ?_,p1⟩;show f43 (dy m) m [.agg (y5 p)] H=_;simp only[f43,eZ,b1]
theorem zID (m n A:Nat)(az:List AV)(H:AH):callV (s84 (dy (m+1)) n).S (dy (m+1)) (.yieldTo A) az H=(dy (m+1)).yld A az H:=rfl
set_option maxRecDepth 100000 in
theorem zGm (m:Nat)(az:List AV)(H:AH):(dy (m+1)).fn 84 az H=f84 (dy m) m az H:=rfl
section
variable {σ:Type}{At N0 k M A2 Aw:Nat}{root:Ptr}{Q:Ptr->Option Nd.Node}{G:AH->(Nat->Prop)->Prop}{step:σ->Ptr×Nd.Node->Bool×σ}{I:Nat->Bool×σ->AH->(Nat->Prop)->Prop}
def Wid (Aw:Nat)(Wg Wi:Nat->Prop)(B:Nat):Prop:=Wg B\/Wi B\/B=Aw
structure Awk (Aw:Nat)(Wg Wi:Nat->Prop)(H:AH)(Wg' Wi':Nat->Prop)(H':AH):Prop where
 s:Stp (Wid Aw Wg Wi) H H'
 g: ∀B,Wg' B->Wg B\/H.next<=B
 i: ∀B,Wi' B->Wi B\/H.next<=B
theorem Awk.adw {Aw:Nat}{Wg Wi Wg' Wi':Nat->Prop}{H H':AH}(h:Awk Aw Wg Wi H Wg' Wi' H'):Adw (Wid Aw Wg Wi) H (Wid Aw Wg' Wi') H':=⟨h.s,fun B hB=>by
 rcases hB with e | e | e
 ·exact(h.g B e).imp .inl id
 ·exact(h.i B e).imp (fun x=> .inr (.inl x)) id
 ·exact .inl (.inr (.inr e))⟩
theorem Awk.prs {Aw:Nat}{Wg Wi:Nat->Prop}{H H':AH}(h:Prs H H'):Awk Aw Wg Wi H Wg Wi H':=⟨h.stp,fun _ x=> .inl x,fun _ x=> .inl x⟩
theorem Awk.refl {Aw:Nat}{Wg Wi:Nat->Prop}{H:AH}(h:H.ok):Awk Aw Wg Wi H Wg Wi H:=Awk.prs (Stp.refl h)
theorem Awk.trans {Aw:Nat}{Wg Wi Wg' Wi' Wg2 Wi2:Nat->Prop}{H H' H2:AH}(h:Awk Aw Wg Wi H Wg' Wi' H')(k:Awk Aw Wg' Wi' H' Wg2 Wi2 H2):Awk Aw Wg Wi H Wg2 Wi2 H2:=
 ⟨(h.adw.trans k.adw).1,fun B hB=>by
  rcases k.g B hB with e | e
  ·exact h.g B e
  ·exact .inr (Nat.le_trans h.s.next e),fun B hB=>by
  rcases k.i B hB with e | e
  ·exact h.i B e
  ·exact .inr (Nat.le_trans h.s.next e)⟩
structure Wk (N0 At Aw:Nat)(G:AH->(Nat->Prop)->Prop)(I:Nat->Bool×σ->AH->(Nat->Prop)->Prop)(H:AH)(Wg Wi:Nat->Prop)(left bud:Nat)(x:Bool×σ):Prop where
 g:G H Wg
 i:I bud x H Wi
 w: ∃e,H.h.get Aw=some (.cells [.ptr At 0, .nilMap, .int .i64 ((left:Nat):Int), .int .i64 ((0:Nat):Int)] e 1 false)
 lo:N0<=Aw
 ng: ¬Wg Aw
 ni: ¬Wi Aw
 sep: ∀B,Wi B-> ¬Wg B
variable (r:Rdr At N0 k root Q G)(c:Cns A2 M N0 encN step I)
include r c
theorem Wk.ok {H:AH}{Wg Wi:Nat->Prop}{left bud:Nat}{x:Bool×σ}(h:Wk N0 At Aw G I H Wg Wi left bud x):H.ok:=And.left ⟨r.ok h.g,c.ok h.i⟩
theorem Wk.lt {H:AH}{Wg Wi:Nat->Prop}{left bud:Nat}{x:Bool×σ}(h:Wk N0 At Aw G I H Wg Wi left bud x): ∀B,Wid Aw Wg Wi B->B<H.next:=fun B hB=>by
 rcases hB with e | e | rfl
 ·exact r.lt h.g B e
 ·exact(c.lt h.i B e).1
 ·obtain⟨_,g⟩:=h.w;exact(r.ok h.g).lt g
theorem Wk.frame {H H':AH}{Wg Wi S:Nat->Prop}{left bud:Nat}{x:Bool×σ}(h:Wk N0 At Aw G I H Wg Wi left bud x)(s:Stp S H H')(hS: ∀B,S B->N0<=B/\ ¬Wid Aw Wg Wi B):Wk N0 At Aw G I H' Wg Wi left bud x:=by
 obtain⟨e,g⟩:=h.w;refine⟨r.frame h.g s fun B hB=>⟨(hS B hB).1,fun w=>(hS B hB).2 (.inl w)⟩,c.frame h.i s fun B hB w=>(hS B hB).2 (.inr (.inl w)),⟨e, ?_⟩,h.lo,h.ng,h.ni,h.sep⟩;rw[s.keep _ ((r.ok h.g).lt g) (fun w=>(hS _ w).2 (.inr (.inr rfl)))];exact g
theorem Wk.prs {H H':AH}{Wg Wi:Nat->Prop}{left bud:Nat}{x:Bool×σ}(h:Wk N0 At Aw G I H Wg Wi left bud x)(s:Prs H H'):Wk N0 At Aw G I H' Wg Wi left bud x:=h.frame r c s fun _ w=>w.elim
theorem Wk.less {H:AH}{Wg Wi:Nat->Prop}{left left' bud:Nat}{x:Bool×σ}(h:Wk N0 At Aw G I H Wg Wi left bud x): ∃H',stN 1 (.ptr Aw 2) (.int .i64 ((left':Nat):Int)) H=some (qN,H')/\Wk N0 At Aw G I H' Wg Wi left' bud x/\Stp (fun B=>B=Aw) H H':=by
 obtain⟨e,g⟩:=h.w;obtain⟨H',e1,g1,s1⟩:=zJa (r.ok h.g) g (o:=2) (x:= .int .i64 ((left':Nat):Int)) rfl (by simp);exact⟨H',e1,⟨r.frame h.g s1 (fun B hB=>by subst hB;exact⟨h.lo,h.ng⟩),c.frame h.i s1 (fun B hB=>by subst hB;exact h.ni),⟨e,g1⟩,h.lo,h.ng,h.ni,h.sep⟩,s1⟩
theorem Wk.noerr {H:AH}{Wg Wi:Nat->Prop}{left bud:Nat}{x:Bool×σ}(h:Wk N0 At Aw G I H Wg Wi left bud x): ∃H',stN 1 (.ptr Aw 3) (.int .i64 ((0:Nat):Int)) H=some (qN,H')/\Wk N0 At Aw G I H' Wg Wi left bud x/\Stp (fun B=>B=Aw) H H':=by
 obtain⟨e,g⟩:=h.w;obtain⟨H',e1,g1,s1⟩:=zJa (r.ok h.g) g (o:=3) (x:= .int .i64 ((0:Nat):Int)) rfl (by simp);exact⟨H',e1,⟨r.frame h.g s1 (fun B hB=>by subst hB;exact⟨h.lo,h.ng⟩),c.frame h.i s1 (fun B hB=>by subst hB;exact h.ni),⟨e,g1⟩,h.lo,h.ng,h.ni,h.sep⟩,s1⟩
theorem Wk.load {H:AH}{Wg Wi:Nat->Prop}{left bud:Nat}{x:Bool×σ}{p:Ptr}{nd:Nd.Node}(m n:Nat)(hm:100000000<=m)(hn:100000000<=n)(h:Wk N0 At Aw G I H Wg Wi left bud x)(hq:Q p=some nd)(hz:Nd.size nd<=500):
  ∃v H' Wg',f100 (dy m) n [.ptr At 0, .agg (y5 p)] H=some (.tuple [v, .int .i64 ((0:Nat):Int)],H')/\Wk N0 At Aw G I H' Wg' Wi left bud x/\Awk Aw Wg Wi H Wg' Wi H'/\yC H' v nd/\ ∀B,xZ v B->H.next<=B/\ ¬Wid Aw Wg' Wi B:=by
 obtain⟨v,H',Wg',e1,g1,a1,n1,f1⟩:=r.load m n hm hn h.g hq hz;obtain⟨e,g⟩:=h.w;have hlt:=(r.ok h.g).lt g;have hw': ∀B,Wg' B-> ¬Wi B:=fun B hB hi=>by
  rcases a1.2 B hB with e | e
  ·exact h.sep B hi e
  ·have:=(c.lt h.i B hi).1;omega
 refine⟨v,H',Wg',e1,⟨g1,c.frame h.i a1.1 (fun B hB hi=>h.sep B hi hB),⟨e,by rw[a1.1.keep _ hlt h.ng];exact g⟩,h.lo,fun hB=> ?_,h.ni,fun B hi hB=>hw' B hB hi⟩,⟨a1.1.mono fun B _ hB=> .inl hB,a1.2,fun B hB=> .inl hB⟩,n1,fun B hB=>⟨(f1 B hB).1,fun hw=> ?_⟩⟩
 ·rcases a1.2 _ hB with e | e
  ·exact h.ng e
  ·omega
 ·have h1:=(f1 B hB).1;rcases hw with e | e | e
  ·exact(f1 B hB).2 e
  ·have:=(c.lt h.i B e).1;omega
  ·omega
theorem Wk.tell {H:AH}{Wg Wi:Nat->Prop}{left bud:Nat}{s:σ}{p:Ptr}{nd:Nd.Node}{v:AV}(m n:Nat)(hm:M<=m)(h:Wk N0 At Aw G I H Wg Wi left (bud+1) (true,s))(hv:yC H v nd)(hz:Nd.size nd<=500)(hl:nd.leaf=true->nd.vals.length=nd.keys.length)(hb: ∀B,xZ v B-> ¬Wid Aw Wg Wi B):
  ∃H' Wi',callV (s84 (dy (m+1)) n).S (dy (m+1)) (.yieldTo A2) [.agg (y5 p),v] H=some (.bool (step s (p,nd)).1,H')/\Wk N0 At Aw G I H' Wg Wi' left bud (step s (p,nd))/\Awk Aw Wg Wi H Wg Wi' H':=by
 obtain⟨H',Wi',e1,i1,a1⟩:=c.run m hm h.i (a:=(p,nd)) (az:=[.agg (y5 p),v]) ⟨v,rfl,hv,hz,hl,fun B hB w=>hb B hB (.inr (.inl w))⟩;obtain⟨e,g⟩:=h.w;have hlt:=(r.ok h.g).lt g;refine⟨H',Wi',by rw[zID];exact e1,⟨r.frame h.g a1.1 (fun B hB=>⟨(c.lt h.i B hB).2,h.sep B hB⟩),i1,⟨e,by rw[a1.1.keep _ hlt h.ni];exact g⟩,h.lo,h.ng,fun hB=> ?_,fun B hB hg=> ?_⟩,⟨a1.1.mono fun B _ hB=> .inr (.inl hB),fun B hB=> .inl hB,a1.2⟩⟩
 ·rcases a1.2 _ hB with e | e
  ·exact h.ni e
  ·omega
 ·rcases a1.2 B hB with e | e
  ·exact h.sep B e hg
  ·have:=r.lt h.g B hg;omega
omit r c
structure NB (H:AH)(W:Nat->Prop)(A:Nat)(v:AV)(nd:Nd.Node):Prop where
 g: ∃l e,v= .agg l/\H.h.get A=some (.cells l e 1 false)
 nv:yC H v nd
 a: ¬W A
 b: ∀B,xZ v B-> ¬W B
theorem NB.adw {H H':AH}{W W':Nat->Prop}{A:Nat}{v:AV}{nd:Nd.Node}(h:NB H W A v nd)(hk:H.ok)(s:Adw W H W' H'):NB H' W' A v nd:=by
 obtain⟨l,e,rfl,g⟩:=h.g;have hlt:=hk.lt g;refine⟨⟨l,e,rfl,by rw[s.1.keep _ hlt h.a];exact g⟩,h.nv.stp s.1 h.b,fun hw=> ?_,fun B hB hw=> ?_⟩
 ·rcases s.2 _ hw with e | e
  ·exact h.a e
  ·omega
 ·rcases s.2 _ hw with e | e
  ·exact h.b B hB e
  ·have:=h.nv.lt hB;omega
end
open Go.Nd (Ptr yH qQ)
open Go.Bt
theorem zDM {nd:Nd.Node}(h:Nd.size nd<=500):small nd:=by
 simp only[Nd.size]at h;refine⟨?_, ?_, ?_⟩<;>omega
section
variable {σ:Type}{At N0 k M A2 Aw:Nat}{root:Ptr}{Q:Ptr->Option Nd.Node}{G:AH->(Nat->Prop)->Prop}{step:σ->Ptr×Nd.Node->Bool×σ}{I:Nat->Bool×σ->AH->(Nat->Prop)->Prop}{fr to:Str}
variable (r:Rdr At N0 k root Q G)(c:Cns A2 M N0 encN step I)
include r c
theorem zDa (m n:Nat)(hm:M+300000000<=m)(hn:300000000<=n){p:Ptr}{nd:Nd.Node}{s:σ}{H:AH}{Wg Wi:Nat->Prop}{left:Nat}(hq:Q p=some nd)(hz:Nd.size nd<=500)(hvl:nd.leaf=true->nd.vals.length=nd.keys.length)(h:Wk N0 At Aw G I H Wg Wi (left+1) (left+1) (true,s))(hlf:left<=1000000000):
  ∃H5 Wg' Wi' A13 v,Wk N0 At Aw G I H5 Wg' Wi' left left (step s (p,nd))/\Awk Aw Wg Wi H Wg' Wi' H5/\NB H5 (Wid Aw Wg' Wi') A13 v nd/\
   ((step s (p,nd)).1=false->f84 (dy (m+1)) n [.ptr Aw 0, .agg (y5 p),S fr,S to, .func 43 [] [], .yieldTo A2] H=some (.bool false,H5))/\
   ((step s (p,nd)).1=true->nd.leaf=true->f84 (dy (m+1)) n [.ptr Aw 0, .agg (y5 p),S fr,S to, .func 43 [] [], .yieldTo A2] H=some (.bool true,H5))/\
   ((step s (p,nd)).1=true->nd.leaf=false-> ∃H6,Prs H5 H6/\f84 (dy (m+1)) n [.ptr Aw 0, .agg (y5 p),S fr,S to, .func 43 [] [], .yieldTo A2] H=yP (jb 0 (qT n (YW (dy (m+1)) n) [.ptr Aw 0,S fr,S to, .func 43 [] [], .yieldTo A2, .ptr A13 0, .int .i64 ((y7 nd.keys fr:Nat):Int), .int .i64 ((y7 nd.keys fr:Nat):Int)] H6) (zHZ (dy (m+1)) n))):=by
 have hk:=h.ok r c;obtain⟨e0,gw0⟩:=h.w;have lw:=hk.lt gw0;have hlo:=h.lo;obtain⟨H1,A7,b1,p1,g1,m1,n1⟩:=box hk (.cells (y5 p) 65 1 false);obtain⟨H2,e2,p2⟩:=zLC m n p1.ok p;have P2:=p1.trans p2;have W2:=h.prs r c P2;obtain⟨H3,e3,W3,s3⟩:=W2.less r c (left':=left);have N1:=p1.next;have N2:=p2.next;have N3:=s3.next
 obtain⟨H4,A13,b4,p4,g4,m4,n4⟩:=box s3.ok (.cells [.bool false, .nilSlice, .nilSlice, .nilSlice] 111 1 false);have W4:=W3.prs r c p4;have N4:=p4.next
 have lt3:=W3.lt r c;have nA13: ¬Wid Aw Wg Wi A13:=fun hw=>by have:=lt3 _ hw;omega
 obtain⟨H5,e5,g5,s5,n5⟩:=qX p4.ok g4 (l':=[.bool false, .nilSlice, .nilSlice, .nilSlice]) rfl rfl;have e5':stN 4 (.ptr A13 0) (.agg [.bool false, .nilSlice, .nilSlice, .nilSlice]) H4=some (qN,H5):=e5;have W5:=W4.frame r c s5 (fun B hB=>by subst hB;exact⟨by omega,nA13⟩);have N5:=s5.next
 obtain⟨v,H6,Wg',e6,W6,a6,nv6,f6⟩:=W5.load r c (m+1) n (by omega) (by omega) hq hz;have N6:=a6.s.next
 have nA13': ¬Wid Aw Wg' Wi A13:=fun hw=>by
  rcases a6.adw.2 _ hw with e | e
  ·exact nA13 e
  ·omega
 have g6:H6.h.get A13=some (.cells [.bool false, .nilSlice, .nilSlice, .nilSlice] 111 1 false):=by rw[a6.s.keep _ (by omega) nA13];exact g5
 obtain⟨ks,vs,ps,rfl,w1,w2,w3⟩:=nv6;have nv6:yC H6 (.agg [.bool nd.leaf,ks,vs,ps]) nd:=⟨ks,vs,ps,rfl,w1,w2,w3⟩;obtain⟨H7,e7,g7,s7,n7⟩:=qX (W6.ok r c) g6 (l':=[.bool nd.leaf,ks,vs,ps]) rfl (by simp[qP,w1.isCell,w2.isCell,w3.isCell];rfl);have e7':stN 4 (.ptr A13 0) (.agg [.bool nd.leaf,ks,vs,ps]) H6=some (qN,H7):=e7;have W7:=W6.frame r c s7 (fun B hB=>by subst hB;exact⟨by omega,nA13'⟩);have nv7:=nv6.stp s7 (fun B hB e=>by have:=(f6 B hB).1;omega);obtain⟨H8,e8,W8,s8⟩:=W7.noerr r c;have nv8:=nv7.stp s8 (fun B hB e=>by have:=(f6 B hB).1;omega);have N7:=s7.next;have N8:=s8.next
 have g8:H8.h.get A13=some (.cells [.bool nd.leaf,ks,vs,ps] 111 1 false):=by rw[s8.keep _ (by omega) (by omega)];exact g7
 obtain⟨H9,Wi',e9,W9,a9⟩:=W8.tell r c m n (by omega) nv8 hz hvl (fun B hB=>(f6 B hB).2);have nb8:NB H8 (Wid Aw Wg' Wi) A13 (.agg [.bool nd.leaf,ks,vs,ps]) nd:=⟨⟨_,_,rfl,g8⟩,nv8,nA13',fun B hB=>(f6 B hB).2⟩;have nb9:=nb8.adw (W8.ok r c) a9.adw;have g9:H9.h.get A13=some (.cells [.bool nd.leaf,ks,vs,ps] 111 1 false):=by rw[a9.s.keep _ (by omega) nA13'];exact g8
 obtain⟨H10,e10,p10⟩:=fS (dy (m+1)) n (by omega) (W9.ok r c) (v:= .agg [.bool nd.leaf,ks,vs,ps]) (nd:=nd) (key:=fr) nb9.nv.node (zDM hz);have st3:Stp (Wid Aw Wg Wi) H H3:=(Prs.stp P2).trans (s3.mono fun B _ hB=> .inr (.inr hB));have st4:Stp (Wid Aw Wg Wi) H H4:=st3.trans p4.stp;have st5:Stp (Wid Aw Wg Wi) H H5:=Stp.thru st4 s5 fun B hB=> .inl (by omega)
 have st6:Stp (Wid Aw Wg Wi) H H6:=st5.trans a6.s;have st7:Stp (Wid Aw Wg Wi) H H7:=Stp.thru st6 s7 fun B hB=> .inl (by omega)
 have st8:Stp (Wid Aw Wg Wi) H H8:=Stp.thru st7 s8 fun B hB=> .inr (.inr (.inr hB))
 have st9:Stp (Wid Aw Wg Wi) H H9:=Stp.thru st8 a9.s fun B hB=>by
  rcases a6.adw.2 B hB with e | e
  ·exact .inr e
  ·exact .inl (by omega)
 refine⟨H9,Wg',Wi',A13, .agg [.bool nd.leaf,ks,vs,ps],W9,⟨st9,fun B hB=>(a6.g B hB).imp id fun e=>by omega,fun B hB=>(a9.i B hB).imp id fun e=>by omega⟩,nb9, ?_⟩;have gw2:=W2.w;have gw3:=W3.w;have gw5:=W5.w;have gw8:=W8.w;obtain⟨x2,gw2⟩:=gw2;obtain⟨x3,gw3⟩:=gw3;obtain⟨x5,gw5⟩:=gw5;obtain⟨x8,gw8⟩:=gw8;have ne7:A7≠Aw:=by omega
 have nA7: ∀ {Wi:Nat->Prop},¬Wid Aw Wg Wi A7->True:=fun _=>trivial
 have q3:H3.h.get A7=some (.cells (y5 p) 65 1 false):=by rw[s3.keep _ (by omega) ne7];exact Prs.get p2 p1.ok g1
 have q5:H5.h.get A7=some (.cells (y5 p) 65 1 false):=by rw[s5.keep _ (by omega) (by omega),p4.keep _ (by omega) (fun x=>x)];exact q3
 have nw7: ¬Wid Aw Wg Wi A7:=fun hw=>by have:=h.lt r c _ hw;omega
 have q8:H8.h.get A7=some (.cells (y5 p) 65 1 false):=by rw[s8.keep _ (by omega) ne7,s7.keep _ (by omega) (by omega),a6.s.keep _ (by omega) nw7];exact q5
 have hsub:((left+1:Nat):Int) - ((1:Nat):Int)=((left:Nat):Int):=by omega
 have hneg: ¬((left:Nat):Int)< ((0:Nat):Int):=by omega
 have t00: ¬(((0:Nat):Int)≠((0:Nat):Int)):=by omega
 have hky:Eng.keyOk (1::[6,6,10]) (.agg (y5 p))=true:=rfl;have hlk:lkM (1::[6,6,10]) (.agg [.bool false, .nilSlice, .nilSlice, .nilSlice]) true .nilMap (.agg (y5 p)) H3=some (.tuple [.agg [.bool false, .nilSlice, .nilSlice, .nilSlice], .bool false]):=by
  simp only[lkM,hky,cond_true];rfl
 have ap: ∀ {H:AH},H.h.get A7=some (.cells (y5 p) 65 1 false)->ldN 3 (.ptr A7 0) H=some (.agg (y5 p)):=fun g=>by rw[qR g];rfl
 have hbx:bxV 65 (.agg (y5 p))=some (.cells (y5 p) 65 1 false,fun A=> .ptr A 0):=rfl;have r1:ldN 3 (.ptr A7 0) H1=some (.agg (y5 p)):=ap g1;have r9:ldN 4 (.ptr A13 0) H9=some (.agg [.bool nd.leaf,ks,vs,ps]):=vL g9 rfl;have r8:ldN 4 (.ptr A13 0) H8=some (.agg [.bool nd.leaf,ks,vs,ps]):=vL g8 rfl;refine⟨fun hb=> ?_,fun hb hl=> ?_,fun hb hl=>⟨H10,p10, ?_⟩⟩
 ·rw[hb]at e9;simp(maxSteps:=999999)(disch:=omega) only[f84,zHY,eZ,hbx,b1,r1,e2,qM gw2,hsub,e3,qM gw3,hneg,hlk,ap q3,qL,nth,b4,e5',qM gw5,ap q5,e6,e7',e8,qM gw8,t00,ap q8,r8,e9]
 ·rw[hb]at e9;rw[hl]at e6 e7' r8 e9 g9;simp(maxSteps:=999999)(disch:=omega) only[f84,zHY,eZ,hbx,b1,r1,e2,qM gw2,hsub,e3,qM gw3,hneg,hlk,ap q3,qL,nth,b4,e5',qM gw5,ap q5,e6,e7',e8,qM gw8,t00,ap q8,r8,e9,qM g9]
 ·rw[hb]at e9;rw[hl]at e6 e7' r8 e9 g9 r9 e10;rw[uQ hl rfl fr]at e10;simp(maxSteps:=999999)(disch:=omega) only[f84,zHY,eZ,hbx,b1,r1,e2,qM gw2,hsub,e3,qM gw3,hneg,hlk,ap q3,qL,nth,b4,e5',qM gw5,ap q5,e6,e7',e8,qM gw8,t00,ap q8,r8,e9,qM g9,r9,e10]
end
open Go.Nd (Ptr yH qQ)
open Go.Bt
theorem l0_go (D:Dyn)(n:Nat){H H':AH}{A2 Aw A13 first i:Nat}{fr to:Str}{nd:Nd.Node}{v:AV}{W:Nat->Prop}{b:Bool}(nb:NB H W A13 v nd)(hi:i<nd.kids.length)(hlen:nd.kids.length=nd.keys.length+1)(hs:i<=1000000)
  (hgo:i=first\/(first<i/\y6 to (nd.keys.getD (i - 1) [])=true))
  (e1:D.fn 84 [.ptr Aw 0, .agg (y5 nd.kids[i]),S fr,S to, .func 43 [] [], .yieldTo A2] H=some (.bool b,H')):
  YW D n [.ptr Aw 0,S fr,S to, .func 43 [] [], .yieldTo A2, .ptr A13 0, .int .i64 ((first:Nat):Int), .int .i64 ((i:Nat):Int)] H=some (bif b then .norm [.ptr Aw 0,S fr,S to, .func 43 [] [], .yieldTo A2, .ptr A13 0, .int .i64 ((first:Nat):Int), .int .i64 ((i+1:Nat):Int)]else .ret (.bool false),H'):=by
 obtain⟨l,e,rfl,g⟩:=nb.g;obtain⟨ks,vs,ps,hl,w1,w2,w3⟩:=nb.nv;simp only[AV.agg.injEq]at hl;subst hl;have hp:uO H ps nd.kids:=w3.row;have hx:Strs H ks nd.keys:=w1.row;obtain⟨qp,ip,ip'⟩:=hp.at hi;have hiI:((i:Nat):Int)< ((nd.kids.length:Nat):Int):=by omega
 have hi1:((i:Nat):Int)+((1:Nat):Int)=((i+1:Nat):Int):=by omega
 have hS:(AV.str 0 0)=S []:=rfl;rcases hgo with rfl | ⟨hf,ha⟩
 ·have hgt: ¬((i:Nat):Int)< ((i:Nat):Int):=by omega
  cases b<;>simp(maxSteps:=999999)(disch:=omega) only[YW,eZ,cond_true,cond_false,qM g,hp.lnSl,hiI,hgt,ip,ip',e1,hi1]
 ·have hgt:((first:Nat):Int)< ((i:Nat):Int):=by omega
  by_cases ht:to=[]
  ·have hne:jU .neq (S to) (S [])=some (.bool false):=by rw[xI];simp[ht]
   cases b<;>simp(maxSteps:=999999)(disch:=omega) only[YW,eZ,cond_true,cond_false,qM g,hp.lnSl,hiI,hgt,hS,hne,ip,ip',e1,hi1]
  ·have hne:jU .neq (S to) (S [])=some (.bool true):=by rw[xI];simp[ht]
   have hi':i - 1<nd.keys.length:=by omega
   obtain⟨qk,ik,ik'⟩:=hx.at hi';have hsub:((i:Nat):Int) - ((1:Nat):Int)=((i - 1:Nat):Int):=by omega
   have hlt:ltS nd.keys[i - 1] to=true:=by
    rw[zM,zC hi',Option.getD_some]at ha;simp only[y6,Bool.or_eq_true,List.isEmpty_iff,ht,false_or]at ha;exact ha
   have hge:jU .geq (S nd.keys[i - 1]) (S to)=some (.bool false):=by rw[cE,hlt];rfl
   cases b<;>simp(maxSteps:=999999)(disch:=omega) only[YW,eZ,cond_true,cond_false,qM g,hp.lnSl,hiI,hgt,hS,hne,hsub,ik,ik',hge,ip,ip',e1,hi1]
theorem zKO (D:Dyn)(n:Nat){H:AH}{A2 Aw A13 first i:Nat}{fr to:Str}{nd:Nd.Node}{v:AV}{W:Nat->Prop}(nb:NB H W A13 v nd)(hlen:nd.kids.length=nd.keys.length+1)(hs:i<=1000000)
  (hst:nd.kids.length<=i\/(first<i/\i<nd.kids.length/\y6 to (nd.keys.getD (i - 1) [])=false)):
  YW D n [.ptr Aw 0,S fr,S to, .func 43 [] [], .yieldTo A2, .ptr A13 0, .int .i64 ((first:Nat):Int), .int .i64 ((i:Nat):Int)] H=some (.exit 0 [],H):=by
 obtain⟨l,e,rfl,g⟩:=nb.g;obtain⟨ks,vs,ps,hl,w1,w2,w3⟩:=nb.nv;simp only[AV.agg.injEq]at hl;subst hl;have hp:uO H ps nd.kids:=w3.row;have hx:Strs H ks nd.keys:=w1.row;have hS:(AV.str 0 0)=S []:=rfl;rcases hst with hge | ⟨hf,hi,ha⟩
 ·have hiI: ¬((i:Nat):Int)< ((nd.kids.length:Nat):Int):=by omega
  simp(maxSteps:=999999)(disch:=omega) only[YW,eZ,cond_true,cond_false,qM g,hp.lnSl,hiI]
 ·have hiI:((i:Nat):Int)< ((nd.kids.length:Nat):Int):=by omega
  have hgt:((first:Nat):Int)< ((i:Nat):Int):=by omega
  have hi':i - 1<nd.keys.length:=by omega
  rw[zM,zC hi',Option.getD_some]at ha;simp only[y6,Bool.or_eq_false_iff]at ha;have hne:jU .neq (S to) (S [])=some (.bool true):=by
   rw[xI];have:to≠[]:=fun e=>by rw[e]at ha;simp at ha
   simp[this]
  obtain⟨qk,ik,ik'⟩:=hx.at hi';have hsub:((i:Nat):Int) - ((1:Nat):Int)=((i - 1:Nat):Int):=by omega
  have hge:jU .geq (S nd.keys[i - 1]) (S to)=some (.bool true):=by rw[cE,ha.2];rfl
  simp(maxSteps:=999999)(disch:=omega) only[YW,eZ,cond_true,cond_false,qM g,hp.lnSl,hiI,hgt,hS,hne,hsub,ik,ik',hge]
def zOb {σ:Type}(N0 At Aw M A2:Nat)(Q:Ptr->Option Nd.Node)(G:AH->(Nat->Prop)->Prop)(step:σ->Ptr×Nd.Node->Bool×σ)(I:Nat->Bool×σ->AH->(Nat->Prop)->Prop)(fr to:Str)(h:Nat):Prop:=
 ∀(m n:Nat) (p:Ptr) (nd:Nd.Node) (s:σ) (H:AH) (Wg Wi:Nat->Prop) (left:Nat),M+h+300000000<=m->300000000<=n->Q p=some nd->Vs Q h nd->Wk N0 At Aw G I H Wg Wi left left (true,s)->(wQ Q fr to h p nd).length<=left->left<=1000000000->
  ∃H' Wg' Wi' left',f84 (dy (m+1)) n [.ptr Aw 0, .agg (y5 p),S fr,S to, .func 43 [] [], .yieldTo A2] H=some (.bool (jK step (wQ Q fr to h p nd) s).1,H')/\Wk N0 At Aw G I H' Wg' Wi' left' left' (jK step (wQ Q fr to h p nd) s)/\Awk Aw Wg Wi H Wg' Wi' H'/\left<=left'+(wQ Q fr to h p nd).length/\left'<=left
section
variable {σ:Type}{At N0 k M A2 Aw:Nat}{root:Ptr}{Q:Ptr->Option Nd.Node}{G:AH->(Nat->Prop)->Prop}{step:σ->Ptr×Nd.Node->Bool×σ}{I:Nat->Bool×σ->AH->(Nat->Prop)->Prop}{fr to:Str}
variable (r:Rdr At N0 k root Q G)(c:Cns A2 M N0 encN step I)
include r c
theorem zD9 {h m n A13:Nat}{nd:Nd.Node}{v:AV}(ih:zOb N0 At Aw M A2 Q G step I fr to h)(hlen:nd.kids.length=nd.keys.length+1)(hz:Nd.size nd<=500)(hkids: ∀p∈nd.kids,∃nd',Q p=some nd'/\Vs Q h nd')(hm:M+h+300000000<=m):
  ∀(rr i kf:Nat) {s:σ} {H:AH} {Wg Wi:Nat->Prop} {left:Nat},y7 nd.keys fr<=i->i+rr=y7 nd.keys fr+aI nd.keys to (y7 nd.keys fr)->rr<kf->Wk N0 At Aw G I H Wg Wi left left (true,s)->NB H (Wid Aw Wg Wi) A13 v nd->(((nd.kids.drop i).take rr).flatMap (U9 Q (wQ Q fr to h))).length<=left->left<=1000000000->
   ∃H' Wg' Wi' left',jb 0 (qT kf (YW (dy (m+2)) n) [.ptr Aw 0,S fr,S to, .func 43 [] [], .yieldTo A2, .ptr A13 0, .int .i64 ((y7 nd.keys fr:Nat):Int), .int .i64 ((i:Nat):Int)] H) (zHZ (dy (m+2)) n)=some (.ret (.bool (jK step (((nd.kids.drop i).take rr).flatMap (U9 Q (wQ Q fr to h))) s).1),H')/\
    Wk N0 At Aw G I H' Wg' Wi' left' left' (jK step (((nd.kids.drop i).take rr).flatMap (U9 Q (wQ Q fr to h))) s)/\Awk Aw Wg Wi H Wg' Wi' H'/\left<=left'+(((nd.kids.drop i).take rr).flatMap (U9 Q (wQ Q fr to h))).length/\left'<=left
 | 0,i,0,_,_,_,_,_,_,_,hk,_,_,_,_=>by omega
 | 0,i,kf+1,s,H,Wg,Wi,left,hf,he,_,wk,nb,_,_=>by
  have hle:=vQ nd.keys fr;have hc:=ZN nd.keys to _ hle;have hk5:nd.keys.length<=500:=by obtain⟨a,_,_⟩:=hH hz;exact a
  refine⟨H,Wg,Wi,left, ?_,by simpa[jK]using wk,Awk.refl (wk.ok r c),by simp,Nat.le_refl _⟩;have hst:nd.kids.length<=i\/(y7 nd.keys fr<i/\i<nd.kids.length/\y6 to (nd.keys.getD (i - 1) [])=false):=by
   by_cases hi:nd.kids.length<=i
   ·exact .inl hi
   ·have h1:1<=aI nd.keys to (y7 nd.keys fr):=Nat.succ_le_succ (Nat.zero_le _);refine .inr ⟨by omega,by omega, ?_⟩;have hd:(nd.keys.drop (y7 nd.keys fr))[((nd.keys.drop (y7 nd.keys fr)).takeWhile (y6 to)).length]? =some (nd.keys.getD (i - 1) []):=by
     rw[qG,zM];have:y7 nd.keys fr+((nd.keys.drop (y7 nd.keys fr)).takeWhile (y6 to)).length=i - 1:=by
      have:aI nd.keys to (y7 nd.keys fr)=((nd.keys.drop (y7 nd.keys fr)).takeWhile (y6 to)).length+1:=rfl;omega
     rw[this,zC (by omega),Option.getD_some]
    exact uT hd
  rw[qU (zKO (dy (m+2)) n nb hlen (by omega) hst)];simp only[List.take_zero,List.flatMap_nil,jK];simp only[jb,zHZ,eZ];rfl
 | rr+1,i,0,_,_,_,_,_,_,_,hk,_,_,_,_=>by omega
 | rr+1,i,kf+1,s,H,Wg,Wi,left,hf,he,hkf,wk,nb,hl,hlf=>by
  have hle:=vQ nd.keys fr;have hc:=ZN nd.keys to _ hle;have hk5:nd.keys.length<=500:=by obtain⟨a,_,_⟩:=hH hz;exact a
  have hi:i<nd.kids.length:=by omega
  have hL:((nd.kids.drop i).take (rr+1)).flatMap (U9 Q (wQ Q fr to h))=U9 Q (wQ Q fr to h) nd.kids[i]++((nd.kids.drop (i+1)).take rr).flatMap (U9 Q (wQ Q fr to h)):=by
   rw[zN hi,List.take_succ_cons,zP]
  obtain⟨nd',hq,hv⟩:=hkids _ (zR hi);have hkf':U9 Q (wQ Q fr to h) nd.kids[i]=wQ Q fr to h nd.kids[i] nd':=by simp only[U9,hq]
  rw[hL,hkf']at hl⊢;rw[zI]at hl;obtain⟨H1,Wg1,Wi1,left1,e1,wk1,a1,l1,l1'⟩:=ih m (m+1) _ _ _ _ _ _ _ hm (by omega) hq hv wk (by omega) hlf;have hgo:i=y7 nd.keys fr\/(y7 nd.keys fr<i/\y6 to (nd.keys.getD (i - 1) [])=true):=by
   by_cases hif:i=y7 nd.keys fr
   ·exact .inl hif
   ·refine .inr ⟨by omega, ?_⟩;have hlt:i - 1 - y7 nd.keys fr< ((nd.keys.drop (y7 nd.keys fr)).takeWhile (y6 to)).length:=by
     have:aI nd.keys to (y7 nd.keys fr)=((nd.keys.drop (y7 nd.keys fr)).takeWhile (y6 to)).length+1:=rfl;omega
    refine fW hlt ?_;rw[qG,show y7 nd.keys fr+(i - 1 - y7 nd.keys fr)=i - 1 by omega,zM,zC (by omega),Option.getD_some]
  have hb:=l0_go (dy (m+2)) n (Aw:=Aw) (A2:=A2) (fr:=fr) nb hi hlen (by omega) hgo (by rw[zGm];exact e1);rw[zB3]
  cases hr:(jK step (wQ Q fr to h nd.kids[i] nd') s).1 with
  | false=>
   rw[hr]at hb;simp only[cond_false]at hb⊢;have hs:jK step (wQ Q fr to h nd.kids[i] nd') s=(false,(jK step (wQ Q fr to h nd.kids[i] nd') s).2):=by rw[<-hr]
   rw[hs]at wk1;refine⟨H1,Wg1,Wi1,left1, ?_,wk1,a1,by rw[zI];omega,l1'⟩;rw[vE hb];rfl
  | true=>
   rw[hr]at hb;simp only[cond_true]at hb⊢;have hs:jK step (wQ Q fr to h nd.kids[i] nd') s=(true,(jK step (wQ Q fr to h nd.kids[i] nd') s).2):=by rw[<-hr]
   rw[hs]at wk1;obtain⟨H2,Wg2,Wi2,left2,e2,wk2,a2,l2,l2'⟩:=zD9 ih hlen hz hkids hm rr (i+1) kf (by omega) (by omega) (by omega) wk1 (nb.adw (wk.ok r c) a1.adw) (by omega) (by omega);refine⟨H2,Wg2,Wi2,left2, ?_,wk2,a1.trans a2,by rw[zI];omega,by omega⟩;rw[xU hb];exact e2
theorem zDb: ∀h,zOb N0 At Aw M A2 Q G step I fr to h
 | 0=>fun m n p nd s H Wg Wi left hm hn hq hv wk hl hlf=>by
  obtain⟨v1,v2,v3⟩:=hv;have hvis:wQ Q fr to 0 p nd=[(p,nd)]:=rfl;rw[hvis]at hl⊢;obtain⟨l,rfl⟩: ∃l,left=l+1:=⟨left - 1,by simp at hl;omega⟩;obtain⟨H5,Wg',Wi',A13,v,wk',a',nb,c1,c2,_⟩:=zDa r c (fr:=fr) (to:=to) m n (by omega) hn hq v3 (fun _=>v2) wk (by omega);have hrun:jK step [(p,nd)] s=step s (p,nd):=by
   simp only[jK]
   cases hb:(step s (p,nd)).1 with
   | true=>simp only[cond_true];rw[<-hb]
   | false=>simp only[cond_false];rw[<-hb]
  rw[hrun];refine⟨H5,Wg',Wi',l, ?_,wk',a',by simp,by omega⟩
  cases hb:(step s (p,nd)).1 with
  | true=>exact c2 hb v1
  | false=>exact c1 hb
 | h+1=>fun m n p nd s H Wg Wi left hm hn hq hv wk hl hlf=>by
  obtain⟨v1,v2,v3,v4⟩:=hv;have hvis:wQ Q fr to (h+1) p nd=(p,nd)::((nd.kids.drop (y7 nd.keys fr)).take (aI nd.keys to (y7 nd.keys fr))).flatMap (U9 Q (wQ Q fr to h)):=rfl;rw[hvis]at hl⊢;simp only[zF]at hl⊢;obtain⟨l,rfl⟩: ∃l,left=l+1:=⟨left - 1,by omega⟩;obtain⟨m',rfl⟩: ∃m',m=m'+1:=⟨m - 1,by omega⟩;obtain⟨H5,Wg',Wi',A13,v,wk',a',nb,c1,_,c3⟩:=zDa r c (fr:=fr) (to:=to) (m'+1) n (by omega) hn hq v3 (fun e=>by rw[v1]at e;cases e) wk (by omega)
  cases hb:(step s (p,nd)).1 with
  | false=>
   have hs:step s (p,nd)=(false,(step s (p,nd)).2):=by rw[<-hb]
   refine⟨H5,Wg',Wi',l, ?_, ?_,a',by omega,by omega⟩
   ·simp only[jK,hb,cond_false];exact c1 hb
   ·simp only[jK,hb,cond_false];rw[hs]at wk';exact wk'
  | true=>
   have hs:step s (p,nd)=(true,(step s (p,nd)).2):=by rw[<-hb]
   rw[hs]at wk';obtain⟨H6,p6,e6⟩:=c3 hb v1;have hk5:nd.keys.length<=500:=by obtain⟨a,_,_⟩:=hH v3;exact a
   have hle:=vQ nd.keys fr;have hc:=ZN nd.keys to _ hle;obtain⟨H7,Wg7,Wi7,l7,e7,wk7,a7,b7,b7'⟩:=zD9 r c (m:=m') (n:=n) (zDb h) v2 v3 v4 (by omega) (aI nd.keys to (y7 nd.keys fr)) (y7 nd.keys fr) n (Nat.le_refl _) rfl (by omega) (wk'.prs r c p6) (nb.adw (wk'.ok r c) ⟨p6.stp,fun B hB=> .inl hB⟩) (by omega) (by omega);refine⟨H7,Wg7,Wi7,l7, ?_, ?_,a'.trans ((Awk.prs p6).trans a7),by omega,by omega⟩
   ·rw[e6,e7];simp only[jK,hb,cond_true];rfl
   ·simp only[jK,hb,cond_true];exact wk7
end
open Go.Nd (Ptr yH qQ whereN)
open Go.Bt
def encP (_:AH)(_:Nat->Prop)(x:Str×Str)(az:List AV):Prop:=az=[.agg [S x.1,S x.2]]
def lpP (b:Bool)(Bf Bt By:Nat):ALoop:=⟨bif b then .ready else .done,bif b then none else some .ret,60,0,[2,3,5],[.ptr Bf 0, .ptr Bt 0, .ptr By 0]⟩
def zGU (A2 Bf Bt By B:Nat):Prop:=B=A2\/B=Bf\/B=Bt\/B=By
structure Inn2 {σ:Type}(I:Nat->Bool×σ->AH->(Nat->Prop)->Prop)(N0 Bf Bt By A1:Nat)(fr to:Str)(b:Nat)(bo:Bool)(s:σ)(H:AH)(Wo:Nat->Prop):Prop where
 i:I b (bo,s) H Wo
 bf:Box H Bf (S fr)
 bt:Box H Bt (S to)
 by':Box H By (.yieldTo A1)
 lo:N0<=Bf/\N0<=Bt/\N0<=By
 nw: ¬Wo Bf/\ ¬Wo Bt/\ ¬Wo By
def I2 {σ:Type}(I:Nat->Bool×σ->AH->(Nat->Prop)->Prop)(N0 A2 Bf Bt By A1:Nat)(fr to:Str)(b:Nat)(x:Bool×σ)(H:AH)(W:Nat->Prop):Prop:=
 ∃Wo bo,Inn2 I N0 Bf Bt By A1 fr to (500*b) bo x.2 H Wo/\(x.1=true->bo=true)/\H.h.get A2=some (.loop (lpP x.1 Bf Bt By))/\N0<=A2/\ ¬Wo A2/\ ∀B,W B↔(Wo B\/zGU A2 Bf Bt By B)
section
variable {σ:Type}{A1 M N0:Nat}{step:σ->Str×Str->Bool×σ}{I:Nat->Bool×σ->AH->(Nat->Prop)->Prop}(c:Cns A1 M N0 encP step I)
include c
theorem Inn2.adw {Bf Bt By:Nat}{fr to:Str}{b b':Nat}{bo bo':Bool}{s s':σ}{H H':AH}{Wo Wo':Nat->Prop}(h:Inn2 I N0 Bf Bt By A1 fr to b bo s H Wo)(a:Adw Wo H Wo' H')(i:I b' (bo',s') H' Wo'):Inn2 I N0 Bf Bt By A1 fr to b' bo' s' H' Wo':=by
 have hk:=c.ok h.i;have nw: ∀ {B:Nat} {x:AV},Box H B x-> ¬Wo B-> ¬Wo' B:=fun hb hn hw=>by
  rcases a.2 _ hw with e | e
  ·exact hn e
  ·have:=hb.lt hk;omega
 exact⟨i,h.bf.mono hk a.1 h.nw.1,h.bt.mono hk a.1 h.nw.2.1,h.by'.mono hk a.1 h.nw.2.2,h.lo,nw h.bf h.nw.1,nw h.bt h.nw.2.1,nw h.by' h.nw.2.2⟩
theorem Inn2.frame {Bf Bt By:Nat}{fr to:Str}{b:Nat}{bo:Bool}{s:σ}{H H':AH}{Wo S:Nat->Prop}(h:Inn2 I N0 Bf Bt By A1 fr to b bo s H Wo)(k:Stp S H H')(hS: ∀B,S B-> ¬Wo B/\B≠Bf/\B≠Bt/\B≠By):Inn2 I N0 Bf Bt By A1 fr to b bo s H' Wo:=by
 have hk:=c.ok h.i;exact⟨c.frame h.i k fun B hB=>(hS B hB).1,h.bf.mono hk k fun e=>(hS _ e).2.1 rfl,h.bt.mono hk k fun e=>(hS _ e).2.2.1 rfl,h.by'.mono hk k fun e=>(hS _ e).2.2.2 rfl,h.lo,h.nw⟩
theorem Inn2.drop {Bf Bt By:Nat}{fr to:Str}{b b':Nat}{bo:Bool}{s:σ}{H:AH}{Wo:Nat->Prop}(h:Inn2 I N0 Bf Bt By A1 fr to b bo s H Wo)(hb:b'<=b):Inn2 I N0 Bf Bt By A1 fr to b' bo s H Wo:=⟨c.mono h.i hb,h.bf,h.bt,h.by',h.lo,h.nw⟩
theorem U7 {m n A7 Bf Bt By:Nat}{fr to:Str}{nd:Nd.Node}{v:AV}(hm:M<=m)(hvl:nd.vals.length=nd.keys.length)(hz:nd.keys.length<=500):
  ∀(rr i kf:Nat) {b:Nat} {s:σ} {H:AH} {Wo:Nat->Prop},i+rr=nd.keys.length->rr<kf->Inn2 I N0 Bf Bt By A1 fr to (b+rr) true s H Wo->NB H Wo A7 v nd->
   ∃H' Wo' bo e,jb 2 (qT kf (zAo (dy (m+1)) n) [.ptr Bt 0, .ptr By 0, .ptr A7 0, .int .i64 ((i:Nat):Int)] H) (zLd (dy (m+1)) n)=some (e,H')/\
    Inn2 I N0 Bf Bt By A1 fr to b bo (jK (kL to step) ((nd.keys.zip nd.vals).drop i) s).2 H' Wo'/\Adw Wo H Wo' H'/\((jK (kL to step) ((nd.keys.zip nd.vals).drop i) s).1=true->bo=true/\e= .norm [])/\((jK (kL to step) ((nd.keys.zip nd.vals).drop i) s).1=false->e= .ret (.tuple []))
 | _,_,0,_,_,_,_,_,hk,_,_=>by omega
 | 0,i,kf+1,b,s,H,Wo,he,_,hi,nb=>by
  obtain⟨l,e,rfl,g⟩:=nb.g;obtain⟨ks,vs,ps,hl,w1,w2,w3⟩:=nb.nv;simp only[AV.agg.injEq]at hl;subst hl;have hx:Strs H ks nd.keys:=w1.row;have hnil:(nd.keys.zip nd.vals).drop i=[]:=zQ (by simp;omega);rw[hnil];refine⟨H,Wo,true, .norm [], ?_,hi,Adw.refl (c.ok hi.i),fun _=>⟨rfl,rfl⟩,fun h=>by simp[jK]at h⟩;have hge: ¬((i:Nat):Int)< ((nd.keys.length:Nat):Int):=by omega
  rw[qU (i:=2) (vs':=[]) (H':=H) (by simp(maxSteps:=999999)(disch:=omega) only[zAo,eZ,qM g,hx.lnSl,hge])];simp only[jb,zLd,eZ];rfl
 | rr+1,i,kf+1,b,s,H,Wo,he,hkf,hi,nb=>by
  have nb0:=nb;obtain⟨l,e,rfl,g⟩:=nb.g;obtain⟨ks,vs,ps,hl,w1,w2,w3⟩:=nb.nv;simp only[AV.agg.injEq]at hl;subst hl;have hx:Strs H ks nd.keys:=w1.row;have hy:Strs H vs nd.vals:=w2.row;have hik:i<nd.keys.length:=by omega
  have hiv:i<nd.vals.length:=by omega
  obtain⟨qk,ik,ik'⟩:=hx.at hik;obtain⟨qv,iv,iv'⟩:=hy.at hiv;have hiI:((i:Nat):Int)< ((nd.keys.length:Nat):Int):=by omega
  have hi1:((i:Nat):Int)+((1:Nat):Int)=((i+1:Nat):Int):=by omega
  have hS:(AV.str 0 0)=S []:=rfl;have hL:(nd.keys.zip nd.vals).drop i=(nd.keys[i],nd.vals[i])::(nd.keys.zip nd.vals).drop (i+1):=by
   rw[zN (by simp;omega),List.getElem_zip]
  rw[hL];have hbs:jT [(0,1),(1,1)] [S [],S []] [(0,S nd.keys[i]),(1,S nd.vals[i])]=some (.agg [S nd.keys[i],S nd.vals[i]]):=rfl;have hcall: ∀az H,callV (s60 (dy (m+1)) n).S (dy (m+1)) (.yieldTo A1) az H=(dy (m+1)).yld A1 az H:=fun _ _=>rfl
  cases ha:y6 to nd.keys[i]with
  | false=>
   have hst:kL to step s (nd.keys[i],nd.vals[i])=(false,s):=by simp only[kL,ha,cond_false]
   simp only[jK,hst,cond_false];refine⟨H,Wo,true, .ret (.tuple []), ?_,hi.drop c (b':=b) (by omega),Adw.refl (c.ok hi.i),fun h=>by simp at h,fun _=>rfl⟩;simp only[y6,Bool.or_eq_false_iff]at ha;have hne:jU .neq (S to) (S [])=some (.bool true):=by
    rw[xI];have:to≠[]:=fun e=>by rw[e]at ha;simp at ha
    simp[this]
   have hge:jU .geq (S nd.keys[i]) (S to)=some (.bool true):=by rw[cE,ha.2];rfl
   rw[vE (v:= .tuple []) (H':=H) (by simp(maxSteps:=999999)(disch:=omega) only[zAo,eZ,qM g,hx.lnSl,hiI,hi.bt.ld,hS,hne,ik,ik',hge])];rfl
  | true=>
   obtain⟨H1,Wo1,e1,i1,a1⟩:=c.run m hm hi.i (a:=(nd.keys[i],nd.vals[i])) (az:=[.agg [S nd.keys[i],S nd.vals[i]]]) rfl;have hi':=hi.adw c a1 (b':=b+rr) (bo':=(step s (nd.keys[i],nd.vals[i])).1) (s':=(step s (nd.keys[i],nd.vals[i])).2) i1;have hst:kL to step s (nd.keys[i],nd.vals[i])=step s (nd.keys[i],nd.vals[i]):=by simp only[kL,ha,cond_true]
   have body:zAo (dy (m+1)) n [.ptr Bt 0, .ptr By 0, .ptr A7 0, .int .i64 ((i:Nat):Int)] H=some (bif (step s (nd.keys[i],nd.vals[i])).1 then .norm [.ptr Bt 0, .ptr By 0, .ptr A7 0, .int .i64 ((i+1:Nat):Int)]else .ret (.tuple []),H1):=by
    by_cases ht:to=[]
    ·have hne:jU .neq (S to) (S [])=some (.bool false):=by rw[xI];simp[ht]
     cases hb:(step s (nd.keys[i],nd.vals[i])).1<;>rw[hb]at e1<;>simp(maxSteps:=999999)(disch:=omega) only[zAo,eZ,cond_true,cond_false,qM g,hx.lnSl,hiI,hi.bt.ld,hi.by'.ld,hS,hne,ik,ik',iv,iv',hbs,hcall,e1,hi1]
    ·have hne:jU .neq (S to) (S [])=some (.bool true):=by rw[xI];simp[ht]
     have hlt:ltS nd.keys[i] to=true:=by simpa[y6,ht]using ha
     have hge:jU .geq (S nd.keys[i]) (S to)=some (.bool false):=by rw[cE,hlt];rfl
     cases hb:(step s (nd.keys[i],nd.vals[i])).1<;>rw[hb]at e1<;>simp(maxSteps:=999999)(disch:=omega) only[zAo,eZ,cond_true,cond_false,qM g,hx.lnSl,hiI,hi.bt.ld,hi.by'.ld,hS,hne,ik,ik',hge,iv,iv',hbs,hcall,e1,hi1]
   have nb1:=nb0.adw (c.ok hi.i) a1
   cases hb:(step s (nd.keys[i],nd.vals[i])).1 with
   | false=>
    rw[hb]at body hi';simp only[cond_false]at body;simp only[jK,hst,hb,cond_false];refine⟨H1,Wo1,false, .ret (.tuple []), ?_,hi'.drop c (b':=b) (by omega),a1,fun h=>by simp at h,fun _=>rfl⟩;rw[vE body];rfl
   | true=>
    rw[hb]at body hi';simp only[cond_true]at body;simp only[jK,hst,hb,cond_true];obtain⟨H2,Wo2,bo,e,e2,i2,a2,t2,f2⟩:=U7 hm hvl hz rr (i+1) kf (by omega) (by omega) hi' nb1;refine⟨H2,Wo2,bo,e, ?_,i2,a1.trans a2,t2,f2⟩;rw[xU body];exact e2
end
open Go.Nd (Ptr yH qQ whereN)
open Go.Bt
section
variable {σ:Type}{A1 M N0:Nat}{step:σ->Str×Str->Bool×σ}{I:Nat->Bool×σ->AH->(Nat->Prop)->Prop}(c:Cns A1 M N0 encP step I)
include c
omit c in
theorem zGl (m:Nat){H:AH}{A2 Bf Bt By:Nat}(gA:H.h.get A2=some (.loop (lpP true Bf Bt By)))(az:List AV):(dy (m+1)).yld A2 az H=zA6 (dy m) m A2 (lpP true Bf Bt By) az H:=by
 show WA (tabR (dy m) m) A2 az H=_;simp only[WA,gA];rfl
theorem zES {A2 Bf Bt By:Nat}{fr to:Str}{b0:Nat}{s:σ}{a:Ptr×Nd.Node}{az:List AV}{H:AH}{W:Nat->Prop}(m:Nat)(hm:M+300000000<=m)(hi:I2 I N0 A2 Bf Bt By A1 fr to (b0+1) (true,s) H W)(he:encN H W a az):
  ∃H' W',(dy (m+1)).yld A2 az H=some (.bool (wF fr to step s a).1,H')/\I2 I N0 A2 Bf Bt By A1 fr to b0 (wF fr to step s a) H' W'/\Adw W H W' H':=by
 obtain⟨Wo,bo,hi,hb,gA,hlo,nA,hW⟩:=hi;obtain rfl:=hb rfl;obtain⟨p,nd⟩:=a;obtain⟨v,rfl,nv,hz,hvl,nvw⟩:=he;simp only at nv hz hvl nvw⊢;obtain⟨m',rfl⟩: ∃m',m=m'+1:=⟨m - 1,by omega⟩;rw[zGl (m'+1) gA];have hk:=c.ok hi.i;have lA:=hk.lt gA;have n2:A2≠Bf/\A2≠Bt/\A2≠By:=by
  refine⟨fun e=> ?_,fun e=> ?_,fun e=> ?_⟩
  ·obtain⟨_,h⟩:=hi.bf;rw[<-e,gA]at h;cases h
  ·obtain⟨_,h⟩:=hi.bt;rw[<-e,gA]at h;cases h
  ·obtain⟨_,h⟩:=hi.by';rw[<-e,gA]at h;cases h
 have lbf:=hi.bf.lt hk;have lbt:=hi.bt.lt hk;have lby:=hi.by'.lt hk;have nvo: ∀B,xZ v B-> ¬Wo B:=fun B hB w=>nvw B hB ((hW B).2 (.inl w))
 have nv2: ¬xZ v A2:=fun hB=>nvw A2 hB ((hW A2).2 (.inr (.inl rfl)))
 obtain⟨ks,vs,ps,rfl,w1,w2,w3⟩:=nv;have nv:yC H (.agg [.bool nd.leaf,ks,vs,ps]) nd:=⟨ks,vs,ps,rfl,w1,w2,w3⟩;obtain⟨H1,A7,b1,p1,g1,m1,n1⟩:=box hk (.cells [.bool false, .nilSlice, .nilSlice, .nilSlice] 111 1 false);obtain⟨H2,e2,g2,s2,n2'⟩:=qX p1.ok g1 (l':=[.bool nd.leaf,ks,vs,ps]) rfl (by simp[qP,w1.isCell,w2.isCell,w3.isCell];rfl);have e2':stN 4 (.ptr A7 0) (.agg [.bool nd.leaf,ks,vs,ps]) H1=some (qN,H2):=e2;have P2:Prs H H2:=p1.fresh s2 fun B hB=>by omega
 have N1:=p1.next;have N2:=s2.next
 have gA2:=Prs.get P2 hk gA;have hbeg: ∀K:AH->Rs,cB A2 H2 K=K (H2.put A2 (.loop { lpP true Bf Bt By with state:= .busy})):=fun K=>by
  simp only[cB,gA2,lpP,cond_true,jW]
 have s3:Stp (fun B=>B=A2) H2 (H2.put A2 (.loop { lpP true Bf Bt By with state:= .busy})):=(Stp.refl s2.ok).put (s2.ok.lt gA2) _ (.inr rfl);have g3:(H2.put A2 (.loop { lpP true Bf Bt By with state:= .busy})).h.get A2=some (.loop { lpP true Bf Bt By with state:= .busy}):=by rw[AH.put_get,if_pos rfl]
 generalize H2.put A2 (.loop { lpP true Bf Bt By with state:= .busy})=H3 at s3 g3 hbeg;have N3:=s3.next
 have lWo: ∀B,Wo B->B<H.next:=fun B hB=>(c.lt hi.i B hB).1
 have i3:=(hi.frame c P2 (fun _ x=>x.elim)).frame c s3 (fun B hB=>by subst hB;exact⟨nA,n2⟩);have q3:H3.h.get A7=some (.cells [.bool nd.leaf,ks,vs,ps] 111 1 false):=by rw[s3.keep _ (by omega) (by omega)];exact g2
 have nv3:yC H3 (.agg [.bool nd.leaf,ks,vs,ps]) nd:=(nv.prs P2).stp s3 fun B hB e=>nv2 (e▸hB)
 have nb3:NB H3 Wo A7 (.agg [.bool nd.leaf,ks,vs,ps]) nd:=⟨⟨_,_,rfl,q3⟩,nv3,fun w=>by have:=lWo _ w;omega,nvo⟩;have hl:YS [2,3,5] (lpP true Bf Bt By).live=true:=rfl;have hvls:(lpP true Bf Bt By).vals=[.ptr Bf 0, .ptr Bt 0, .ptr By 0]:=rfl;have s03:Stp W H H3:=(Prs.stp P2).trans (s3.mono fun B _ hB=>(hW B).2 (.inr (.inl hB)))
 cases hlf:nd.leaf with
 | false=>
  have hst:wF fr to step s (p,nd)=(true,s):=by simp only[wF,xW,hlf,cond_false,jK]
  rw[hst];rw[hlf]at q3 e2';have s4:Stp (fun B=>B=A2) H3 (H3.put A2 (.loop (lpP true Bf Bt By))):=(Stp.refl s3.ok).put (s3.ok.lt g3) _ (.inr rfl);have hend:XS A2 none H3=some (.bool true,H3.put A2 (.loop (lpP true Bf Bt By))):=by simp only[XS,g3,jW,lpP,cond_true]
  have i4:=i3.frame c s4 (fun B hB=>by subst hB;exact⟨nA,n2⟩);refine⟨H3.put A2 (.loop (lpP true Bf Bt By)),W, ?_,⟨Wo,true,i4.drop c (b':=500*b0) (by omega),fun _=>rfl,by rw[AH.put_get,if_pos rfl],hlo,nA,hW⟩,⟨s03.trans (s4.mono fun B _ hB=>(hW B).2 (.inr (.inl hB))),fun B hB=> .inl hB⟩⟩;simp(maxSteps:=999999)(disch:=omega) only[zA6,eZ,hl,hvls,cond_true,b1,e2',hbeg,qM q3,zLc];exact hend
 | true=>
  rw[hlf]at q3 e2' nb3;obtain⟨H4,e4,p4⟩:=fS (dy (m'+1)) (m'+1) (by omega) s3.ok (key:=fr) nb3.nv.node (zDM hz);have i4:=i3.frame c p4 (fun _ x=>x.elim);have nb4:NB H4 Wo A7 (.agg [.bool true,ks,vs,ps]) nd:=nb3.adw s3.ok ⟨p4.stp,fun B hB=> .inl hB⟩;have hwl:=Nd.whereN_le nd fr;have hk5:nd.keys.length<=500:=by obtain⟨a,_,_⟩:=hH hz;exact a
  obtain⟨H5,Wo5,bo5,e,e5,i5,a5,t5,f5⟩:=U7 c (m:=m') (n:=m'+1) (by omega) (hvl hlf) hk5 (nd.keys.length - whereN nd fr) (whereN nd fr) (m'+1) (b:=500*b0) (by omega) (by omega) (i4.drop c (b':=500*b0+(nd.keys.length - whereN nd fr)) (by omega)) nb4;have hst:wF fr to step s (p,nd)=jK (kL to step) ((nd.keys.zip nd.vals).drop (whereN nd fr)) s:=by simp only[wF,xW,hlf,cond_true]
  rw[hst];have N4:=p4.next;have N5:=a5.1.next
  have g4:H4.h.get A2=some (.loop { lpP true Bf Bt By with state:= .busy}):=Prs.get p4 s3.ok g3;have g5:H5.h.get A2=some (.loop { lpP true Bf Bt By with state:= .busy}):=by rw[a5.1.keep _ (by omega) nA];exact g4
  have hk5':=c.ok i5.i;have nA5: ¬Wo5 A2:=fun w=>by
   rcases a5.2 _ w with e | e
   ·exact nA e
   ·omega
  have r4:ldN 4 (.ptr A7 0) H3=some (.agg [.bool true,ks,vs,ps]):=vL q3 rfl;have fin: ∀b:Bool,Stp (fun B=>B=A2) H5 (H5.put A2 (.loop (lpP b Bf Bt By))):=fun b=>(Stp.refl hk5').put (hk5'.lt g5) _ (.inr rfl)
  have run: ∀b:Bool,XS A2 (bif b then none else some .ret) H5=some (.bool b,H5.put A2 (.loop (lpP b Bf Bt By))):=fun b=>by
   cases b<;>simp only[XS,g5,jW,lpP,cond_true,cond_false]
  have out: ∀b:Bool,(b=true->bo5=true)->I2 I N0 A2 Bf Bt By A1 fr to b0 (b,(jK (kL to step) ((nd.keys.zip nd.vals).drop (whereN nd fr)) s).2) (H5.put A2 (.loop (lpP b Bf Bt By))) (fun B=>Wo5 B\/zGU A2 Bf Bt By B):=fun b hb=>
   ⟨Wo5,bo5,i5.frame c (fin b) (fun B hB=>by subst hB;exact⟨nA5,n2⟩),hb,by rw[AH.put_get,if_pos rfl],hlo,nA5,fun B=>Iff.rfl⟩
  have adw: ∀b:Bool,Adw W H (fun B=>Wo5 B\/zGU A2 Bf Bt By B) (H5.put A2 (.loop (lpP b Bf Bt By))):=fun b=>by
   refine⟨((s03.trans p4.stp).trans (a5.1.mono fun B _ hB=>(hW B).2 (.inl hB))).trans ((fin b).mono fun B _ hB=>(hW B).2 (.inr (.inl hB))),fun B hB=> ?_⟩;rcases hB with e | e
   ·rcases a5.2 B e with e | e
    ·exact .inl ((hW B).2 (.inl e))
    ·exact .inr (by omega)
   ·exact .inl ((hW B).2 (.inr e))
  cases hr:(jK (kL to step) ((nd.keys.zip nd.vals).drop (whereN nd fr)) s).1 with
  | true=>
   obtain⟨rfl,rfl⟩:=t5 hr;have hs:jK (kL to step) ((nd.keys.zip nd.vals).drop (whereN nd fr)) s=(true,(jK (kL to step) ((nd.keys.zip nd.vals).drop (whereN nd fr)) s).2):=by rw[<-hr]
   rw[hs];refine⟨_,_, ?_,out true (fun _=>rfl),adw true⟩;have e5':=e5;simp(maxSteps:=999999)(disch:=omega) only[zA6,eZ,hl,hvls,cond_true,b1,e2',hbeg,qM q3,r4,i3.bf.ld,e4,e5,zLc];exact run true
  | false=>
   obtain rfl:=f5 hr;have hs:jK (kL to step) ((nd.keys.zip nd.vals).drop (whereN nd fr)) s=(false,(jK (kL to step) ((nd.keys.zip nd.vals).drop (whereN nd fr)) s).2):=by rw[<-hr]
   rw[hs];refine⟨_,_, ?_,out false (fun h=>by cases h),adw false⟩;simp(maxSteps:=999999)(disch:=omega) only[zA6,eZ,hl,hvls,cond_true,b1,e2',hbeg,qM q3,r4,i3.bf.ld,e4,e5];exact run false
theorem zET (A2 Bf Bt By:Nat)(fr to:Str):Cns A2 (M+300000000) N0 encN (wF fr to step) (I2 I N0 A2 Bf Bt By A1 fr to) where
 ok:=fun⟨_,_,hi,_⟩=>c.ok hi.i
 lt:=fun {b x H W} ⟨Wo,bo,hi,hb,gA,hlo,nA,hW⟩ B hB=>by
  have hk:=c.ok hi.i;rcases(hW B).1 hB with e | e | e | e | e
  ·exact c.lt hi.i B e
  ·subst e;exact⟨hk.lt gA,hlo⟩
  ·subst e;exact⟨hi.bf.lt hk,hi.lo.1⟩
  ·subst e;exact⟨hi.bt.lt hk,hi.lo.2.1⟩
  ·subst e;exact⟨hi.by'.lt hk,hi.lo.2.2⟩
 mono:=fun⟨Wo,bo,hi,hb,gA,hlo,nA,hW⟩ h=>⟨Wo,bo,hi.drop c (by omega),hb,gA,hlo,nA,hW⟩
 frame:=fun {b x H H' W S} ⟨Wo,bo,hi,hb,gA,hlo,nA,hW⟩ s hS=>by
  have hk:=c.ok hi.i;refine⟨Wo,bo,hi.frame c s fun B hB=>⟨fun w=>hS B hB ((hW B).2 (.inl w)),fun e=>hS B hB ((hW B).2 (.inr (.inr (.inl e)))),fun e=>hS B hB ((hW B).2 (.inr (.inr (.inr (.inl e))))),fun e=>hS B hB ((hW B).2 (.inr (.inr (.inr (.inr e)))))⟩,hb, ?_,hlo,nA,hW⟩;rw[s.keep _ (hk.lt gA) fun w=>hS A2 w ((hW A2).2 (.inr (.inl rfl)))];exact gA
 run:=fun m hm hi he=>zES c m hm hi he
end
open Go.Nd (Ptr yH qQ whereN)
open Go.Bt
def Vis (Q:Ptr->Option Nd.Node)(root:Ptr)(fr to:Str)(L:List (Ptr×Nd.Node)):Prop:=
 ((root.at_=0\/(to≠[]/\ltS fr to=false))/\L=[])\/(root.at_≠0/\(to=[]\/ltS fr to=true)/\ ∃h nd,h<=1000000/\Q root=some nd/\Vs Q h nd/\L=wQ Q fr to h root nd)
section
variable {σ:Type}{At N0 k M A2 Aw:Nat}{root:Ptr}{Q:Ptr->Option Nd.Node}{G:AH->(Nat->Prop)->Prop}{step:σ->Ptr×Nd.Node->Bool×σ}{I:Nat->Bool×σ->AH->(Nat->Prop)->Prop}{fr to:Str}
variable (r:Rdr At N0 k root Q G)(c:Cns A2 M N0 encN step I)
include r c
theorem zEz (m:Nat)(hm:M+310000000<=m){Xw Xt Xf Xp:Nat}{s:σ}{H:AH}{Wg Wi:Nat->Prop}{left:Nat}{L:List (Ptr×Nd.Node)}(wk:Wk N0 At Aw G I H Wg Wi left left (true,s))(hL:Vis Q root fr to L)(hl:L.length<=left)(hlf:left<=1000000000)
  (bw:Box H Xw (.ptr Aw 0)) (bt:Box H Xt (S to)) (bf:Box H Xf (S fr)) (bp:Box H Xp (.func 43 [] [])):
  ∃H' Wg' Wi' left',f82 (dy m) m [.yieldTo A2, .ptr Xw 0, .ptr Xt 0, .ptr Xf 0, .ptr Xp 0] H=some (.tuple [],H')/\Wk N0 At Aw G I H' Wg' Wi' left' left' (jK step L s)/\Awk Aw Wg Wi H Wg' Wi' H':=by
 have hk:=wk.ok r c;obtain⟨ek,gw⟩:=wk.w;obtain⟨m',rfl⟩: ∃m',m=m'+1:=⟨m - 1,by omega⟩;obtain⟨H1,e1,p1⟩:=r.root (dy (m'+1)) (m'+1) wk.g;obtain⟨H2,A6,b2,p2,g2,m2,n2⟩:=box p1.ok (.cells [.int .i64 ((0:Nat):Int), .int .i64 ((0:Nat):Int), .int .u64 ((0:Nat):Int)] 65 1 false);obtain⟨H3,e3,g3,s3,n3⟩:=qX p2.ok g2 (l':=y5 root) rfl rfl;have e3':stN 3 (.ptr A6 0) (.agg (y5 root)) H2=some (qN,H3):=e3;have N1:=p1.next;have N2:=p2.next;have N3:=s3.next
 have P3:Prs H H3:=(p1.trans p2).fresh s3 fun B hB=>by omega
 have wk3:=wk.prs r c P3;have up: ∀ {A:Nat} {x:AV},Box H A x->Box H3 A x:=fun hb=>hb.mono hk P3 fun x=>x
 have bw3:=up bw;have bt3:=up bt;have bf3:=up bf;have bp3:=up bp;have hS:(AV.str 0 0)=S []:=rfl;have g3':H3.h.get A6=some (.cells [.int .i64 root.at_, .int .i64 root.birth, .int .u64 root.sum] 65 1 false):=g3;have r3:ldN 3 (.ptr A6 0) H3=some (.agg (y5 root)):=by rw[qR g3];rfl
 have hbx:bxV 65 (.agg [.int .i64 ((0:Nat):Int), .int .i64 ((0:Nat):Int), .int .u64 ((0:Nat):Int)])=some (.cells [.int .i64 ((0:Nat):Int), .int .i64 ((0:Nat):Int), .int .u64 ((0:Nat):Int)] 65 1 false,fun A=> .ptr A 0):=rfl;rcases hL with⟨hL,rfl⟩ | ⟨hr,ht,h,nd,hh,hq,hv,rfl⟩
 ·refine⟨H3,Wg,Wi,left, ?_,by simpa[jK]using wk3,Awk.prs P3⟩;by_cases h0:root.at_=0
  ·have h0': ¬(root.at_≠((0:Nat):Int)):=by simp[h0]
   simp(maxSteps:=999999)(disch:=omega) only[f82,zFe,eZ,bw.ld,qM gw,e1,hbx,b2,e3',qM g3',h0']
  ·have h0':root.at_≠((0:Nat):Int):=by simpa using h0
   obtain⟨ht,hlt⟩:=hL.resolve_left h0;have hne:jU .eql (S to) (S [])=some (.bool false):=by rw[yO];simp[ht]
   have hls:jU .lss (S fr) (S to)=some (.bool false):=by rw[cD,hlt]
   simp(maxSteps:=999999)(disch:=omega) only[f82,zFe,eZ,bw.ld,qM gw,e1,hbx,b2,e3',qM g3',h0',ne_eq,not_false_eq_true,hS,bt3.ld,bf3.ld,hne,hls]
 ·obtain⟨H4,Wg4,Wi4,left4,e4,wk4,a4,_,_⟩:=zDb r c (fr:=fr) (to:=to) h m' (m'+1) _ _ _ _ _ _ _ (by omega) (by omega) hq hv wk3 hl hlf;refine⟨H4,Wg4,Wi4,left4, ?_,wk4,(Awk.prs P3).trans a4⟩;have h0':root.at_≠((0:Nat):Int):=by simpa using hr
  by_cases hte:to=[]
  ·have hne:jU .eql (S to) (S [])=some (.bool true):=by rw[yO];simp[hte]
   simp(maxSteps:=999999)(disch:=omega) only[f82,zFe,eZ,bw.ld,qM gw,e1,hbx,b2,e3',qM g3',h0',ne_eq,not_false_eq_true,hS,bt3.ld,bf3.ld,bw3.ld,bp3.ld,hne,r3,e4]
  ·have hne:jU .eql (S to) (S [])=some (.bool false):=by rw[yO];simp[hte]
   have hls:jU .lss (S fr) (S to)=some (.bool true):=by rw[cD,ht.resolve_left hte]
   simp(maxSteps:=999999)(disch:=omega) only[f82,zFe,eZ,bw.ld,qM gw,e1,hbx,b2,e3',qM g3',h0',ne_eq,not_false_eq_true,hS,bt3.ld,bf3.ld,bw3.ld,bp3.ld,hne,hls,r3,e4]
end
section
variable {σ:Type}{At N0 k M A1 Aw:Nat}{root:Ptr}{Q:Ptr->Option Nd.Node}{G:AH->(Nat->Prop)->Prop}{step:σ->Str×Str->Bool×σ}{I:Nat->Bool×σ->AH->(Nat->Prop)->Prop}{fr to:Str}
variable (r:Rdr At N0 k root Q G)(c:Cns A1 M N0 encP step I)
include r c
set_option maxRecDepth 100000 in
theorem zEl (m:Nat)(hm:M+620000000<=m){Xw Xf Xt Xp:Nat}{s:σ}{H:AH}{Wg Wo:Nat->Prop}{left ek:Nat}{L:List (Ptr×Nd.Node)}(hg:G H Wg)(hi:I (500*left) (true,s) H Wo)(gw:H.h.get Aw=some (.cells [.ptr At 0, .nilMap, .int .i64 ((left:Nat):Int), .int .i64 ((0:Nat):Int)] ek 1 false))(hlo:N0<=Aw)(ng: ¬Wg Aw)(ni: ¬Wo Aw)(sep: ∀B,Wo B-> ¬Wg B)
  (hL:Vis Q root fr to L) (hl:L.length<=left) (hlf:left<=1000000000)
  (bw:Box H Xw (.ptr Aw 0)) (bf:Box H Xf (S fr)) (bt:Box H Xt (S to)) (bp:Box H Xp (.func 43 [] [])) (hx:N0<=Xf/\N0<=Xt/\ ¬Wo Xf/\ ¬Wo Xt/\ ¬Wg Xf/\ ¬Wg Xt):
  ∃H' Wg' Wo' bo left' ek',f60 (dy m) m [.yieldTo A1, .ptr Xw 0, .ptr Xf 0, .ptr Xt 0, .ptr Xp 0] H=some (.tuple [],H')/\G H' Wg'/\I (500*left') (bo,(jK (wF fr to step) L s).2) H' Wo'/\
   H'.h.get Aw=some (.cells [.ptr At 0, .nilMap, .int .i64 ((left':Nat):Int), .int .i64 ((0:Nat):Int)] ek' 1 false)/\Stp (fun B=>Wg B\/Wo B\/B=Aw\/B=Xf\/B=Xt) H H'/\(∀B,Wg' B->Wg B\/H.next<=B)/\(∀B,Wo' B->Wo B\/H.next<=B):=by
 have hk:=r.ok hg;have lw:=hk.lt gw;obtain⟨H1,A5,b1,p1,g1,m1,n1⟩:=box hk (.cells [.yieldTo A1] 118 1 false);have N1:=p1.next
 have up: ∀ {H':AH} {A:Nat} {x:AV},Prs H H'->Box H A x->Box H' A x:=fun P hb=>hb.mono hk P fun x=>x
 obtain⟨H2,B4,c4,p2,g2,m2,n2⟩:=box p1.ok (.cells [.ptr Aw 0] 88 1 false);obtain⟨H3,B5,c5,p3,g3,m3,n3⟩:=box p2.ok (.cells [S fr] 9 1 false);obtain⟨H4,B6,c6,p4,g4,m4,n4⟩:=box p3.ok (.cells [S to] 9 1 false);obtain⟨H5,B7,c7,p5,g5,m5,n5⟩:=box p4.ok (.cells [.func 43 [] []] 93 1 false);have N2:=p2.next;have N3:=p3.next;have N4:=p4.next;have N5:=p5.next
 have p6:Prs H5 (H5.push (.loop (lpP true Xf Xt A5))):=(Stp.refl p5.ok).push _;have g6:(H5.push (.loop (lpP true Xf Xt A5))).h.get H5.next=some (.loop (lpP true Xf Xt A5)):=AH.push_get_eq _ _
 have hnew: ∀K:Nat->AH->Rs,zBk H5 (.loop ⟨.ready,none,60,0,[2,3,5],[.ptr Xf 0, .ptr Xt 0, .ptr A5 0]⟩) K=K H5.next (H5.push (.loop (lpP true Xf Xt A5))):=fun K=>VZ p5.ok _ K
 have hnx:(H5.push (.loop (lpP true Xf Xt A5))).next=H5.next+1:=rfl
 generalize H5.push (.loop (lpP true Xf Xt A5))=H6 at p6 g6 hnew hnx;obtain⟨A2,hA2⟩: ∃A2,A2=H5.next:=⟨_,rfl⟩
 rw[<-hA2]at g6 hnew;have P15:Prs H1 H5:=((p2.trans p3).trans p4).trans p5;have P6:Prs H H6:=(p1.trans P15).trans p6;have lWo: ∀B,Wo B->B<H.next/\N0<=B:=fun B hB=>c.lt hi B hB
 have lWg: ∀B,Wg B->B<H.next:=fun B hB=>r.lt hg B hB
 have lX:Xf<H.next/\Xt<H.next:=⟨bf.lt hk,bt.lt hk⟩
 have in2:Inn2 I N0 Xf Xt A5 A1 fr to (500*left) true s H6 Wo:=⟨c.frame hi P6 fun _ x=>x.elim,up P6 bf,up P6 bt,⟨_,Prs.get (P15.trans p6) p1.ok g1⟩,⟨hx.1,hx.2.1,by omega⟩,⟨hx.2.2.1,hx.2.2.2.1,fun w=>by have:=lWo _ w;omega⟩⟩;have i2:I2 I N0 A2 Xf Xt A5 A1 fr to left (true,s) H6 (fun B=>Wo B\/zGU A2 Xf Xt A5 B):=⟨Wo,true,in2,fun _=>rfl,g6,by omega,fun w=>by have:=lWo _ w;omega,fun B=>Iff.rfl⟩;have fAw: ∀B:Nat,zGU A2 Xf Xt A5 B->B≠Aw:=fun B hB e=>by
  rcases hB with e' | e' | e' | e'
  ·omega
  ·obtain⟨_,hb⟩:=bf;rw[<-e',e,gw]at hb;simp at hb
  ·obtain⟨_,hb⟩:=bt;rw[<-e',e,gw]at hb;simp at hb
  ·omega
 have wk:Wk N0 At Aw G (I2 I N0 A2 Xf Xt A5 A1 fr to) H6 Wg (fun B=>Wo B\/zGU A2 Xf Xt A5 B) left left (true,s):=⟨r.frame hg P6 fun _ x=>x.elim,i2,⟨_,Prs.get P6 hk gw⟩,hlo,ng,fun w=>by
   rcases w with w | w
   ·exact ni w
   ·exact fAw _ w rfl,fun B hB w=>by
   have:=lWg B w;rcases hB with e | e | e | e | e
   ·exact sep B e w
   ·omega
   ·subst e;exact hx.2.2.2.2.1 w
   ·subst e;exact hx.2.2.2.2.2 w
   ·omega⟩
 obtain⟨m',rfl⟩: ∃m',m=m'+1:=⟨m - 1,by omega⟩;obtain⟨H7,Wg7,Wi7,l7,e7,wk7,a7⟩:=zEz r (zET c A2 Xf Xt A5 fr to) m' (by omega) wk hL hl hlf (Xw:=B4) (Xt:=B6) (Xf:=B5) (Xp:=B7) ⟨_,Prs.get ((p3.trans p4).trans (p5.trans p6)) p2.ok g2⟩ ⟨_,Prs.get (p5.trans p6) p4.ok g4⟩ ⟨_,Prs.get (p4.trans (p5.trans p6)) p3.ok g3⟩ ⟨_,Prs.get p6 p5.ok g5⟩;obtain⟨Wo7,bo,in7,_,gA7,_,nA7,hW7⟩:=wk7.i;obtain⟨ew7,gw7⟩:=wk7.w;have hk7:=r.ok wk7.g;have N7:=a7.s.next
 have N6:=p6.next
 have s8:Stp (fun B=>B=A2) H7 (H7.put A2 .dead):=(Stp.refl hk7).put (hk7.lt gA7) _ (.inr rfl);have hend: ∀K:Option Code->AH->Rs,X1 A2 H7 K=K (lpP (jK (wF fr to step) L s).1 Xf Xt A5).pending (H7.put A2 .dead):=fun K=>by
  cases hb:(jK (wF fr to step) L s).1<;>rw[hb]at gA7<;>simp only[X1,gA7,lpP,cond_true,cond_false,jW]
 refine⟨H7.put A2 .dead,Wg7,Wo7,bo,l7,ew7, ?_,r.frame wk7.g s8 (fun B hB=>by subst hB;exact⟨by have:=r.lt hg;omega,fun w=>wk7.sep _ ((hW7 _).2 (.inr (.inl rfl))) w⟩),c.frame in7.i s8 (fun B hB=>by subst hB;exact nA7),by rw[s8.keep _ (hk7.lt gw7) (by omega)];exact gw7, ?_,fun B hB=> ?_,fun B hB=> ?_⟩
 ·have hrf:rfC (s60 (dy (m'+1)) (m'+1)).S (dy (m'+1)) (.func 82 [] [.ptr B4 0, .ptr B6 0, .ptr B5 0, .ptr B7 0]) A2 H6=some (.tuple [],H7):=e7;have hf:f61 (dy (m'+1)) (m'+1) [.ptr Aw 0,S fr,S to, .func 43 [] []] H1=some (.func 82 [] [.ptr B4 0, .ptr B6 0, .ptr B5 0, .ptr B7 0],H5):=by
   have x1:qW (.ptr Aw 0)=[.ptr Aw 0]:=rfl;have x2: ∀a,qW (S a)=[S a]:=fun _=>rfl
   have x3:qW (.func 43 [] [])=[.func 43 [] []]:=rfl;simp only[f61,eZ,x1,x2,x3,c4,c5,c6,c7]
  have x0:qW (.yieldTo A1)=[.yieldTo A1]:=rfl;have u1: ∀ {A:Nat} {x:AV},Box H A x->ld1 (.ptr A 0) H1=some x:=fun hb=>(up p1 hb).ld
  simp(maxSteps:=999999)(disch:=omega) only[f60,eZ,x0,b1,u1 bw,u1 bf,u1 bt,u1 bp,hf,hnew,hrf,hend]
  cases(jK (wF fr to step) L s).1<;>rfl
 ·refine⟨s8.ok,by have:=s8.next;omega,fun B hB hS=> ?_⟩
  rw[s8.keep B (by omega) (by omega),a7.s.keep B (by omega) (fun w=> ?_),P6.keep B hB fun x=>x];rcases w with w | (w | w | w | w | w) | w
  ·exact hS (.inl w)
  ·exact hS (.inr (.inl w))
  ·omega
  ·exact hS (.inr (.inr (.inr (.inl w))))
  ·exact hS (.inr (.inr (.inr (.inr w))))
  ·omega
  ·exact hS (.inr (.inr (.inl w)))
 ·exact(a7.g B hB).imp id fun e=>by omega
 ·rcases a7.i B ((hW7 B).2 (.inl hB))with(e | e | e | e | e) | e
  ·exact .inl e
  ·exact .inr (by omega)
  ·subst e;exact absurd hB in7.nw.1
  ·subst e;exact absurd hB in7.nw.2.1
  ·exact .inr (by omega)
  ·exact .inr (by omega)
end
open Go.Nd (Ptr yH qQ Kvs)
open Go.Bt
def lpR (b:Bool)(Bm Bl Bb:Nat):ALoop:=⟨bif b then .ready else .done,bif b then none else some (.exit 0),18,0,[7,12,13],[.ptr Bm 0, .ptr Bl 0, .ptr Bb 0]⟩
def vS (most:Nat)(s:Kvs×Bool)(x:Str×Str):Bool×(Kvs×Bool):=bif Nat.beq s.1.length most then(false,(s.1,true))else(true,(s.1++[x],s.2))
theorem zDV {most:Nat} : ∀(l a:Kvs),a.length+l.length<=most->jK (vS most) l (a,false)=(true,(a++l,false))
 | [],a,_=>by simp[jK]
 | x::l,a,h=>by
  simp only[zF]at h;have hne:Nat.beq a.length most=false:=by
   cases hb:Nat.beq a.length most with
   | false=>rfl
   | true=>have:=Nat.eq_of_beq_eq_true hb;omega
  have hs:vS most (a,false) x=(true,(a++[x],false)):=by simp only[vS,hne,cond_false]
  simp only[jK,hs,cond_true];rw[zDV l (a++[x]) (by simp;omega),List.append_assoc,List.singleton_append]
structure IR (N0 A1 most Bm Bl Bb:Nat)(b:Nat)(x:Bool×(Kvs×Bool))(H:AH)(W:Nat->Prop):Prop where
 ok:H.ok
 gA:H.h.get A1=some (.loop (lpR x.1 Bm Bl Bb))
 bm:Box H Bm (.int .i64 ((most:Nat):Int))
 bb:Box H Bb (.bool x.2.2)
 bl: ∃v,Box H Bl v/\yN 2 85 H v x.2.1.length (x.2.1.flatMap prV)/\ ¬Blk v A1/\ ¬Blk v Bm/\ ¬Blk v Bl/\ ¬Blk v Bb/\(∀B,Blk v B->N0<=B)/\ ∀B,W B↔(zGU A1 Bm Bl Bb B\/Blk v B)
 lo:N0<=A1/\N0<=Bm/\N0<=Bl/\N0<=Bb
 ne:Bm≠Bl/\Bm≠Bb/\Bl≠Bb
 few:x.2.1.length+b<=900000000
theorem zIE (m:Nat){H:AH}{A1 Bm Bl Bb:Nat}(gA:H.h.get A1=some (.loop (lpR true Bm Bl Bb)))(az:List AV):(dy (m+1)).yld A1 az H=zCv (dy m) m A1 (lpR true Bm Bl Bb) az H:=by
 show WA (tabR (dy m) m) A1 az H=_;simp only[WA,gA];rfl
theorem zGr {H:AH}{A B:Nat}{o:ALoop}{v:AV}(g:H.h.get A=some (.loop o))(b:Box H B v):A≠B:=fun e=>by
 obtain⟨_,hb⟩:=b;rw[<-e,g]at hb;cases hb
theorem zE9 {N0 A1 most Bm Bl Bb:Nat}{b:Nat}{s:Kvs×Bool}{a:Str×Str}{az:List AV}{H:AH}{W:Nat->Prop}(m:Nat)(hi:IR N0 A1 most Bm Bl Bb (b+1) (true,s) H W)(he:encP H W a az)(hmo:0<=most):
  ∃H' W',(dy (m+1)).yld A1 az H=some (.bool (vS most s a).1,H')/\IR N0 A1 most Bm Bl Bb b (vS most s a) H' W'/\Adw W H W' H':=by
 obtain⟨hk,gA,bm,bb,⟨v,bl,gv,v1,v2,v3,v4,v5,hW⟩,hlo,hne,hf⟩:=hi;obtain rfl:az=[.agg [S a.1,S a.2]]:=he;obtain⟨l,mo⟩:=s;simp only at gA bb gv hf⊢;rw[zIE m gA];have lA:=hk.lt gA;have lm:=bm.lt hk;have lb:=bb.lt hk;have ll:=bl.lt hk;have nA:A1≠Bm/\A1≠Bl/\A1≠Bb:=⟨zGr gA bm,zGr gA bl,zGr gA bb⟩;obtain⟨H1,A14,b1,p1,g1,m1,n1⟩:=box hk (.cells [S [],S []] 85 1 false);obtain⟨H2,e2,g2,s2,n2⟩:=qX p1.ok g1 (l':=[S a.1,S a.2]) rfl rfl;have e2':stN 2 (.ptr A14 0) (.agg [S a.1,S a.2]) H1=some (qN,H2):=e2;have P2:Prs H H2:=p1.fresh s2 fun B hB=>by omega
 have N1:=p1.next;have N2:=s2.next
 have gA2:=Prs.get P2 hk gA;have hbeg: ∀K:AH->Rs,cB A1 H2 K=K (H2.put A1 (.loop { lpR true Bm Bl Bb with state:= .busy})):=fun K=>by
  simp only[cB,gA2,lpR,cond_true,jW]
 have s3:Stp (fun B=>B=A1) H2 (H2.put A1 (.loop { lpR true Bm Bl Bb with state:= .busy})):=(Stp.refl s2.ok).put (s2.ok.lt gA2) _ (.inr rfl);have g3:(H2.put A1 (.loop { lpR true Bm Bl Bb with state:= .busy})).h.get A1=some (.loop { lpR true Bm Bl Bb with state:= .busy}):=by rw[AH.put_get,if_pos rfl]
 generalize H2.put A1 (.loop { lpR true Bm Bl Bb with state:= .busy})=H3 at s3 g3 hbeg;have N3:=s3.next
 have up: ∀ {B:Nat} {x:AV},Box H B x->A1≠B->Box H3 B x:=fun hb hn=>(hb.mono hk P2 fun x=>x).mono P2.ok s3 (fun e=>hn e.symm)
 have bm3:=up bm nA.1;have bl3:=up bl nA.2.1;have bb3:=up bb nA.2.2;have gv3:yN 2 85 H3 v l.length (l.flatMap prV):=(gv.mono P2 (fun _ _ x=>x)).mono s3 fun B hB e=>v1 (e▸hB)
 have q3:H3.h.get A14=some (.cells [S a.1,S a.2] 85 1 false):=by rw[s3.keep _ (by omega) (by omega)];exact g2
 have hl:YS [7,12,13] (lpR true Bm Bl Bb).live=true:=rfl;have hvls:(lpR true Bm Bl Bb).vals=[.ptr Bm 0, .ptr Bl 0, .ptr Bb 0]:=rfl;have hS:(AV.str 0 0)=S []:=rfl;have hbx:bxV 85 (.agg [S [],S []])=some (.cells [S [],S []] 85 1 false,fun A=> .ptr A 0):=rfl;have hln:lnSl v=some (.int .i64 ((l.length:Nat):Int)):=gv.row.lnSl;by_cases hfull:l.length=most
 ·have hst:vS most (l,mo) a=(false,(l,true)):=by simp only[vS,show Nat.beq l.length most=true by rw[Nat.beq_eq];exact hfull,cond_true]
  rw[hst];obtain⟨H4,e4,b4,s4⟩:=bb3.st s3.ok (x:= .bool true) rfl;have N4:=s4.next
  have g4:H4.h.get A1=some (.loop { lpR true Bm Bl Bb with state:= .busy}):=by rw[s4.keep _ (by omega) (by omega)];exact g3
  have s5:Stp (fun B=>B=A1) H4 (H4.put A1 (.loop (lpR false Bm Bl Bb))):=(Stp.refl s4.ok).put (s4.ok.lt g4) _ (.inr rfl);have hend:XS A1 (some (.exit 0)) H4=some (.bool false,H4.put A1 (.loop (lpR false Bm Bl Bb))):=by simp only[XS,g4,jW,lpR,cond_false]
  have up5: ∀ {B:Nat} {x:AV},Box H3 B x->A1≠B->Bb≠B->Box (H4.put A1 (.loop (lpR false Bm Bl Bb))) B x:=fun hb h1 h2=>(hb.mono s3.ok s4 fun e=>h2 e.symm).mono s4.ok s5 fun e=>h1 e.symm
  refine⟨H4.put A1 (.loop (lpR false Bm Bl Bb)),W, ?_,⟨s5.ok,by rw[AH.put_get,if_pos rfl],up5 bm3 nA.1 (Ne.symm hne.2.1),b4.mono s4.ok s5 (Ne.symm nA.2.2),⟨v,up5 bl3 nA.2.1 (Ne.symm hne.2.2),(gv3.mono s4 fun B hB e=>v4 (e▸hB)).mono s5 fun B hB e=>v1 (e▸hB),v1,v2,v3,v4,v5,hW⟩,hlo,hne,by simp only;omega⟩,⟨(((Prs.stp P2).trans (s3.mono fun B _ hB=>(hW B).2 (.inl (.inl hB)))).trans (s4.mono fun B _ hB=>(hW B).2 (.inl (.inr (.inr (.inr hB)))))).trans (s5.mono fun B _ hB=>(hW B).2 (.inl (.inl hB))),fun B hB=> .inl hB⟩⟩;have heq:((l.length:Nat):Int)=((most:Nat):Int):=by omega
  simp(maxSteps:=999999)(disch:=omega) only[zCv,eZ,hl,hvls,cond_true,hS,hbx,b1,e2',hbeg,bl3.ld,hln,bm3.ld,heq,e4];exact hend
 ·have hst:vS most (l,mo) a=(true,(l++[a],mo)):=by
   have:Nat.beq l.length most=false:=by
    cases hb:Nat.beq l.length most with
    | false=>rfl
    | true=>exact absurd (Nat.eq_of_beq_eq_true hb) hfull
   simp only[vS,this,cond_false]
  rw[hst];obtain⟨H4,A15,b4,p4,g4,m4,n4⟩:=box s3.ok (.cells [S a.1,S a.2] 85 2 false);have hsrc:srcOf 2 (.slice A15 0 1 2) H4=some (1,[S a.1,S a.2]):=by simp only[srcOf,g4];rfl
  obtain⟨v',H5,e5,gv5,s5,f5⟩:=(gv3.mono p4 (fun _ _ x=>x)).app (bytes:=32) (m:=1) (new:=[S a.1,S a.2]) p4.ok (by decide) hsrc rfl rfl (by omega) (by decide);have N4:=p4.next;have N5:=s5.next
  have bl5:Box H5 Bl v:=(bl3.mono s3.ok p4 fun x=>x).mono p4.ok s5 v3;obtain⟨H6,e6,b6,s6⟩:=bl5.st s5.ok (x:=v') gv5.isCell;have N6:=s6.next
  have g6:H6.h.get A1=some (.loop { lpR true Bm Bl Bb with state:= .busy}):=by rw[s6.keep _ (by omega) (by omega),s5.keep _ (by omega) v1,p4.keep _ (by omega) (fun x=>x)];exact g3
  have s7:Stp (fun B=>B=A1) H6 (H6.put A1 (.loop (lpR true Bm Bl Bb))):=(Stp.refl s6.ok).put (s6.ok.lt g6) _ (.inr rfl);have hend:XS A1 none H6=some (.bool true,H6.put A1 (.loop (lpR true Bm Bl Bb))):=by simp only[XS,g6,jW,lpR,cond_true]
  have up7: ∀ {B:Nat} {x:AV},Box H3 B x->A1≠B->Bl≠B-> ¬Blk v B->Box (H6.put A1 (.loop (lpR true Bm Bl Bb))) B x:=fun hb h1 h2 h3=>(((hb.mono s3.ok p4 fun x=>x).mono p4.ok s5 h3).mono s5.ok s6 fun e=>h2 e.symm).mono s6.ok s7 fun e=>h1 e.symm
  have nb: ∀ {B:Nat},¬Blk v B->B<H.next-> ¬Blk v' B:=fun h1 h2 hB=>by
   rcases f5 _ hB with e | e
   ·exact h1 e
   ·omega
  have fl:(l++[a]).flatMap prV=l.flatMap prV++[S a.1,S a.2]:=by simp[qD,prV]
  refine⟨H6.put A1 (.loop (lpR true Bm Bl Bb)),fun B=>zGU A1 Bm Bl Bb B\/Blk v' B, ?_,⟨s7.ok,by rw[AH.put_get,if_pos rfl],up7 bm3 nA.1 (Ne.symm hne.1) v2,up7 bb3 nA.2.2 hne.2.2 v4,⟨v',b6.mono s6.ok s7 (Ne.symm nA.2.1), ?_,nb v1 lA,nb v2 lm,nb v3 ll,nb v4 lb,fun B hB=> ?_,fun B=>Iff.rfl⟩,hlo,hne,by simp only[zI,qH];omega⟩,⟨?_,fun B hB=> ?_⟩⟩
  ·have hneq: ¬((l.length:Nat):Int)=((most:Nat):Int):=by omega
   have r3:ldN 2 (.ptr A14 0) H3=some (.agg [S a.1,S a.2]):=by rw[qR q3];rfl
   have bl1:wK 85 2 1 [S [],S []] [(0, .agg [S a.1,S a.2])]=some (.cells [S a.1,S a.2] 85 2 false,fun A=> .slice A 0 1 2):=rfl;simp(maxSteps:=999999)(disch:=omega) only[zCv,eZ,hl,hvls,cond_true,hS,hbx,b1,e2',hbeg,bl3.ld,hln,bm3.ld,hneq,r3,bl1,b4,e5,e6];exact hend
  ·simp only[fl,zI,qH];exact(gv5.mono s6 fun B hB e=>nb v3 ll (e▸hB)).mono s7 fun B hB e=>nb v1 lA (e▸hB)
  ·rcases f5 B hB with e | e
   ·exact v5 B e
   ·omega
  ·exact(((((Prs.stp P2).trans (s3.mono fun B _ hB=>(hW B).2 (.inl (.inl hB)))).trans p4.stp).trans (s5.mono fun B _ hB=>(hW B).2 (.inr hB))).trans (s6.mono fun B _ hB=>(hW B).2 (.inl (.inr (.inr (.inl hB)))))).trans (s7.mono fun B _ hB=>(hW B).2 (.inl (.inl hB)))
  ·rcases hB with e | e
   ·exact .inl ((hW B).2 (.inl e))
   ·rcases f5 B e with e | e
    ·exact .inl ((hW B).2 (.inr e))
    ·exact .inr (by omega)
theorem zEa (N0 A1 most Bm Bl Bb:Nat)(hmo:0<=most):Cns A1 0 N0 encP (vS most) (IR N0 A1 most Bm Bl Bb) where
 ok:=fun h=>h.ok
 lt:=fun {b x H W} h B hB=>by
  obtain⟨v,bl,gv,v1,v2,v3,v4,v5,hW⟩:=h.bl;rcases(hW B).1 hB with(e | e | e | e) | e
  ·subst e;exact⟨h.ok.lt h.gA,h.lo.1⟩
  ·subst e;exact⟨h.bm.lt h.ok,h.lo.2.1⟩
  ·subst e;exact⟨bl.lt h.ok,h.lo.2.2.1⟩
  ·subst e;exact⟨h.bb.lt h.ok,h.lo.2.2.2⟩
  ·exact⟨gv.lt e,v5 B e⟩
 mono:=fun h hb=>⟨h.ok,h.gA,h.bm,h.bb,h.bl,h.lo,h.ne,by have:=h.few;omega⟩
 frame:=fun {b x H H' W S} h s hS=>by
  obtain⟨v,bl,gv,v1,v2,v3,v4,v5,hW⟩:=h.bl;have n: ∀ {B:Nat},zGU A1 Bm Bl Bb B-> ¬S B:=fun ho hs=>hS _ hs ((hW _).2 (.inl ho))
  exact⟨s.ok,by rw[s.keep _ (h.ok.lt h.gA) (n (.inl rfl))];exact h.gA,h.bm.mono h.ok s (n (.inr (.inl rfl))),h.bb.mono h.ok s (n (.inr (.inr (.inr rfl)))),⟨v,bl.mono h.ok s (n (.inr (.inr (.inl rfl)))),gv.mono s fun B hB hs=>hS B hs ((hW B).2 (.inr hB)),v1,v2,v3,v4,v5,hW⟩,h.lo,h.ne,h.few⟩
 run:=fun m _ hi he=>zE9 m hi he hmo
set_option maxRecDepth 100000 in
theorem VN {At N0 k:Nat}{root:Ptr}{Q:Ptr->Option Nd.Node}{G:AH->(Nat->Prop)->Prop}(r:Rdr At N0 k root Q G)(m:Nat)(hm:700000000<=m){fr to:Str}{most:Nat}{H:AH}{Wg:Nat->Prop}{L:List (Ptr×Nd.Node)}(hg:G H Wg)(hN0:N0<=H.next)(hmo:0<=most)(hL:Vis Q root fr to L)(hl:L.length<=8192+k)(hk9:k<=1000000):
  ∃H' Wg' v,f18 (dy (m+1)) (m+1) [.ptr At 0,S fr,S to, .int .i64 ((most:Nat):Int)] H=some (.tuple [v, .bool (jK (wF fr to (vS most)) L ([],false)).2.2, .int .i64 ((0:Nat):Int)],H')/\G H' Wg'/\Stp Wg H H'/\(∀B,Wg' B->Wg B\/H.next<=B)/\
   yN 2 85 H' v (jK (wF fr to (vS most)) L ([],false)).2.1.length ((jK (wF fr to (vS most)) L ([],false)).2.1.flatMap prV)/\ ∀B,Blk v B->H.next<=B:=by
 have hk:=r.ok hg;obtain⟨left,hleft⟩: ∃left,left=8192+k:=⟨_,rfl⟩;obtain⟨H1,Bm,b1,p1,g1,m1,n1⟩:=box hk (.cells [.int .i64 ((most:Nat):Int)] 3 1 false);have G1:=r.prs hg p1;have ed:=r.dirty (dy (m+1)) (m+1) G1;obtain⟨H2,Aw,b2,p2,g2,m2,n2⟩:=box p1.ok (.cells [.ptr At 0, .nilMap, .int .i64 ((left:Nat):Int), .int .i64 ((0:Nat):Int)] 96 1 false);obtain⟨H3,Bl,b3,p3,g3,m3,n3⟩:=box p2.ok (.cells [.nilSlice] 49 1 false);obtain⟨H4,Bb,b4,p4,g4,m4,n4⟩:=box p3.ok (.cells [.bool false] 4 1 false);obtain⟨H5,e5,g5,s5,n5⟩:=qX p4.ok g4 (l':=[.bool false]) rfl rfl;have e5':stN 1 (.ptr Bb 0) (.bool false) H4=some (qN,H5):=by
  obtain⟨H5',e,_⟩:=(show Box H4 Bb (.bool false)from⟨_,g4⟩).st p4.ok (x:= .bool false) rfl;have:=e5;rw[show stN [AV.bool false].length (.ptr Bb 0) (.agg [.bool false]) H4=stN 1 (.ptr Bb 0) (.bool false) H4 from rfl]at this;exact this
 obtain⟨H6,X4,c4,p6,g6,m6,n6⟩:=box s5.ok (.cells [.ptr Aw 0] 88 1 false);obtain⟨H7,X5,c5,p7,g7,m7,n7⟩:=box p6.ok (.cells [S fr] 9 1 false);obtain⟨H8,X6,c6,p8,g8,m8,n8⟩:=box p7.ok (.cells [S to] 9 1 false);obtain⟨H9,X7,c7,p9,g9,m9,n9⟩:=box p8.ok (.cells [.func 43 [] []] 93 1 false);have N1:=p1.next;have N2:=p2.next;have N3:=p3.next;have N4:=p4.next;have N5:=s5.next;have N6:=p6.next;have N7:=p7.next;have N8:=p8.next;have N9:=p9.next
 have p10:Prs H9 (H9.push (.loop (lpR true Bm Bl Bb))):=(Stp.refl p9.ok).push _;have g10:(H9.push (.loop (lpR true Bm Bl Bb))).h.get H9.next=some (.loop (lpR true Bm Bl Bb)):=AH.push_get_eq _ _
 have hnew: ∀K:Nat->AH->Rs,zBk H9 (.loop ⟨.ready,none,18,0,[7,12,13],[.ptr Bm 0, .ptr Bl 0, .ptr Bb 0]⟩) K=K H9.next (H9.push (.loop (lpR true Bm Bl Bb))):=fun K=>VZ p9.ok _ K
 have hnx:(H9.push (.loop (lpR true Bm Bl Bb))).next=H9.next+1:=rfl
 generalize H9.push (.loop (lpR true Bm Bl Bb))=H10 at p10 g10 hnew hnx;obtain⟨A1,hA1⟩: ∃A1,A1=H9.next:=⟨_,rfl⟩
 rw[<-hA1]at g10 hnew;have N10:=p10.next
 have P69:Prs H5 H9:=((p6.trans p7).trans p8).trans p9;have P510:Prs H5 H10:=P69.trans p10;have P4:Prs H H4:=((p1.trans p2).trans p3).trans p4;have P5:Prs H H5:=P4.fresh s5 fun B hB=>by omega
 have P10:Prs H H10:=P5.trans P510;have bm10:Box H10 Bm (.int .i64 ((most:Nat):Int)):=⟨_,Prs.get P510 s5.ok (by rw[s5.keep _ (by omega) (by omega)];exact Prs.get ((p2.trans p3).trans p4) p1.ok g1)⟩;have gw5:H5.h.get Aw=some (.cells [.ptr At 0, .nilMap, .int .i64 ((left:Nat):Int), .int .i64 ((0:Nat):Int)] 96 1 false):=by rw[s5.keep _ (by omega) (by omega)];exact Prs.get (p3.trans p4) p2.ok g2
 have gw10:=Prs.get P510 s5.ok gw5;have bl10:Box H10 Bl .nilSlice:=⟨_,Prs.get P510 s5.ok (by rw[s5.keep _ (by omega) (by omega)];exact Prs.get p4 p3.ok g3)⟩;have bb10:Box H10 Bb (.bool false):=⟨_,Prs.get P510 s5.ok g5⟩;have lWg: ∀B,Wg B->B<H.next:=fun B hB=>r.lt hg B hB
 have nilB: ∀B,¬Blk .nilSlice B:=fun B hB=>Blk.nil.1 hB
 have i10:IR N0 A1 most Bm Bl Bb (500*left) (true,([],false)) H10 (zGU A1 Bm Bl Bb):=⟨p10.ok,g10,bm10,bb10,⟨.nilSlice,bl10, .inl (Own.nil ..),nilB _,nilB _,nilB _,nilB _,fun B hB=>(nilB B hB).elim,fun B=>⟨fun h=> .inl h,fun h=>h.elim id fun h=>(nilB B h).elim⟩⟩,by omega,⟨by omega,by omega,by omega⟩,by simp;omega⟩;obtain⟨H11,Wg',Wo',bo,left',ek',e11,G11,i11,gw11,s11,a11,o11⟩:=zEl r (zEa N0 A1 most Bm Bl Bb (by omega)) m (by omega) (Xw:=X4) (Xf:=X5) (Xt:=X6) (Xp:=X7) (r.prs hg P10) i10 gw10 (by omega) (fun w=>by have:=lWg _ w;omega) (fun w=>by rcases w with w | w | w | w<;>omega) (fun B hB w=>by have:=lWg _ w;rcases hB with w | w | w | w<;>omega) hL (by omega) (by omega)
  ⟨_,Prs.get (((p7.trans p8).trans p9).trans p10) p6.ok g6⟩ ⟨_,Prs.get ((p8.trans p9).trans p10) p7.ok g7⟩ ⟨_,Prs.get (p9.trans p10) p8.ok g8⟩ ⟨_,Prs.get p10 p9.ok g9⟩ ⟨by omega,by omega,fun w=>by rcases w with w | w | w | w<;>omega,fun w=>by rcases w with w | w | w | w<;>omega,fun w=>by have:=lWg _ w;omega,fun w=>by have:=lWg _ w;omega⟩
 obtain⟨v,bl11,gv,v1,v2,v3,v4,v5,hW⟩:=i11.bl;have N11:=s11.next
 have bb11:=i11.bb;have gA11:=i11.gA;simp only at bb11 gA11 gv;have nA:A1≠Bl/\A1≠Bb:=⟨zGr gA11 bl11,zGr gA11 bb11⟩;have s12:Stp (fun B=>B=A1) H11 (H11.put A1 .dead):=(Stp.refl i11.ok).put (i11.ok.lt gA11) _ (.inr rfl);have hend: ∀K:Option Code->AH->Rs,X1 A1 H11 K=K (lpR bo Bm Bl Bb).pending (H11.put A1 .dead):=fun K=>by
  cases bo<;>simp only[X1,gA11,lpR,cond_true,cond_false,jW]
 have nWg: ¬Wg' A1:=fun w=>by
  rcases a11 _ w with w | w
  ·have:=lWg _ w;omega
  ·omega
 have bl12:=bl11.mono i11.ok s12 (fun e=>nA.1 e.symm);have bb12:=bb11.mono i11.ok s12 (fun e=>nA.2 e.symm);have gw12:(H11.put A1 .dead).h.get Aw=some (.cells [.ptr At 0, .nilMap, .int .i64 ((left':Nat):Int), .int .i64 ((0:Nat):Int)] ek' 1 false):=by rw[s12.keep _ (i11.ok.lt gw11) (by omega)];exact gw11
 refine⟨H11.put A1 .dead,Wg',v, ?_,r.frame G11 s12 (fun B hB=>by subst hB;exact⟨by omega,nWg⟩), ?_,fun B hB=>(a11 B hB).imp id fun e=>by omega,gv.mono s12 fun B hB e=>v1 (e▸hB),fun B hB=> ?_⟩
 ·have hrf:rfC (s18 (dy (m+1)) (m+1)).S (dy (m+1)) (.func 60 [] [.ptr X4 0, .ptr X5 0, .ptr X6 0, .ptr X7 0]) A1 H10=some (.tuple [],H11):=e11;have x1:qW (.ptr Aw 0)=[.ptr Aw 0]:=rfl;have x2: ∀a,qW (S a)=[S a]:=fun _=>rfl
  have x3:qW (.func 43 [] [])=[.func 43 [] []]:=rfl;have x4:qW (.int .i64 ((most:Nat):Int))=[.int .i64 ((most:Nat):Int)]:=rfl;have x5:qW .nilSlice=[.nilSlice]:=rfl;have x6:qW (.bool false)=[.bool false]:=rfl;have hf:f42 (dy (m+1)) (m+1) [.ptr Aw 0,S fr,S to, .func 43 [] []] H5=some (.func 60 [] [.ptr X4 0, .ptr X5 0, .ptr X6 0, .ptr X7 0],H9):=by
   simp only[f42,eZ,x1,x2,x3,c4,c5,c6,c7]
  have hadd:((8192:Nat):Int)+((k:Nat):Int)=((left:Nat):Int):=by omega
  have hbs:jT [(0,1),(1,1),(2,1),(3,1)] [.nilPtr, .nilMap, .int .i64 ((0:Nat):Int), .int .i64 ((0:Nat):Int)] [(0, .ptr At 0),(2, .int .i64 ((left:Nat):Int))]=some (.agg [.ptr At 0, .nilMap, .int .i64 ((left:Nat):Int), .int .i64 ((0:Nat):Int)]):=rfl;have hth:f41 (dy (m+1)) (m+1) [.ptr At 0] H1=some (.ptr Aw 0,H2):=by
   simp(maxSteps:=999999)(disch:=omega) only[f41,eZ,ed,hadd,hbs,b2]
  have r1:ld1 (.ptr Bm 0) H1=some (.int .i64 ((most:Nat):Int)):=by rw[qM g1];rfl
  have hneg: ¬((most:Nat):Int)< ((0:Nat):Int):=by omega
  have t00: ¬(((0:Nat):Int)≠((0:Nat):Int)):=by omega
  cases bo<;>simp(maxSteps:=999999)(disch:=omega) only[f18,zNK,eZ,cq,x4,b1,r1,hneg,hth,x5,b3,x6,b4,e5',hf,hnew,hrf,hend,lpR,cond_true,cond_false,zLR,Nat.beq_refl,qM gw12,t00,bl12.ld,bb12.ld]
 ·refine⟨s12.ok,by have:=s12.next;omega,fun B hB hS=> ?_⟩
  rw[s12.keep B (by omega) (by omega),s11.keep B (by omega) (fun w=> ?_),P10.keep B hB fun x=>x];rcases w with w | (w | w | w | w) | w | w | w
  ·exact hS w
  all_goals omega
 ·rcases o11 B ((hW B).2 (.inr hB))with(e | e | e | e) | e<;>omega
end Go.Eng.Sh
end
section
namespace Go.Dr
open Go.Nd (Str Kvs putP delP lookP Srt mayK)
open Go.Eng (ltS qY y8 xT kU wY)
open Go.Bt (inP y6)
theorem kB (a b:UInt8)(l m:Str):ltS (a::l) (b::m)=(decide (a<b)||(a==b&&ltS l m)):=by
 simp only[ltS,Go.Op.bytesLess]
theorem bU (a:UInt8)(l m:Str):ltS (a::l) (a::m)=ltS l m:=by
 rw[kB];simp[UInt8.lt_irrefl]
def dig (n:Nat):Nat->Str
 | 0=>[]
 | k+1=>UInt8.ofNat (n / 256 ^ k % 256)::dig n k
theorem yY (n:Nat): ∀k,(dig n k).length=k
 | 0=>rfl
 | k+1=>by simp[dig,yY n k]
theorem zG9 (n:Nat): ∀(k i:Nat) (h:i< (dig n k).length),((dig n k)[i]).toNat=n / 256 ^ (k - 1 - i) % 256
 | 0,i,h=>by simp[dig]at h
 | k+1,0,h=>by
  simp only[dig,List.getElem_cons_zero];rw[UInt8.toNat_ofNat'];simp
 | k+1,i+1,h=>by
  simp only[dig,List.getElem_cons_succ];rw[zG9 n k i (by simpa[dig]using h)];congr 3;omega
def zEw (a:Nat):Str->Nat
 | []=>a
 | b::l=>zEw (a*256+b.toNat) l
def num (s:Str):Nat:=zEw 0 s
theorem zBg (n:Nat): ∀(k a:Nat),zEw a (dig n k)=a*256 ^ k+n % 256 ^ k
 | 0,a=>by simp[dig,zEw,Nat.mod_one]
 | k+1,a=>by
  simp only[dig,zEw];rw[zBg n k,UInt8.toNat_ofNat'];have h1:n % 256 ^ (k+1)=256 ^ k*(n / 256 ^ k % 256)+n % 256 ^ k:=by
   rw[Nat.pow_succ,Nat.mod_mul,Nat.add_comm]
  rw[h1,Nat.pow_succ,Nat.add_mul];have h2:n / 256 ^ k % 256 % 2 ^ 8=n / 256 ^ k % 256:=Nat.mod_eq_of_lt (by have:=Nat.mod_lt (n / 256 ^ k) (show 256>0 by omega);omega);rw[h2,Nat.mul_comm (n / 256 ^ k % 256) (256 ^ k),Nat.mul_assoc a,Nat.mul_comm 256 (256 ^ k),Nat.add_assoc,Nat.pow_succ]
theorem uY {n k:Nat}(h:n<256 ^ k):num (dig n k)=n:=by
 rw[num,zBg,Nat.mod_eq_of_lt h];simp
theorem JO: ∀(s:Str) (a:Nat),zEw a s< (a+1)*256 ^ s.length
 | [],a=>by simp[zEw]
 | b::l,a=>by
  have:=JO l (a*256+b.toNat);have hb:=b.toNat_lt;simp only[zEw,zF,Nat.pow_succ];refine zU this ?_;rw[Nat.mul_comm (256 ^ l.length) 256,<-Nat.mul_assoc];exact zW _ (by omega)
theorem zBh: ∀(s u:Str) (a:Nat),zEw a (s++u)=zEw (zEw a s) u
 | [],_,_=>rfl
 | b::s,u,a=>zBh s u _
theorem zBW (n m:Nat): ∀k,ltS (dig n k) (dig m k)=decide (n % 256 ^ k<m % 256 ^ k)
 | 0=>by simp[dig,ltS,Go.Op.bytesLess,Nat.mod_one]
 | k+1=>by
  simp only[dig];rw[kB,zBW n m k];have e: ∀x:Nat,x % 256 ^ (k+1)=256 ^ k*(x / 256 ^ k % 256)+x % 256 ^ k:=fun x=>by
   rw[Nat.pow_succ,Nat.mod_mul,Nat.add_comm]
  have hp:0<256 ^ k:=Nat.pow_pos (by omega);have hn:=Nat.mod_lt n hp;have hm:=Nat.mod_lt m hp;have hx:=Nat.mod_lt (n / 256 ^ k) (show 256>0 by omega);have hy:=Nat.mod_lt (m / 256 ^ k) (show 256>0 by omega);rw[e n,e m];generalize n / 256 ^ k % 256=x at*
  generalize m / 256 ^ k % 256=y at*
  generalize n % 256 ^ k=u at*
  generalize m % 256 ^ k=v at*
  generalize 256 ^ k=P at*
  have hxy:(UInt8.ofNat x<UInt8.ofNat y)↔x<y:=by
   rw[UInt8.lt_iff_toNat_lt,UInt8.toNat_ofNat',UInt8.toNat_ofNat',Nat.mod_eq_of_lt (by omega),Nat.mod_eq_of_lt (by omega)]
  have hxe:(UInt8.ofNat x==UInt8.ofNat y)=decide (x=y):=by
   rw[Bool.eq_iff_iff,beq_iff_eq,zE];constructor
   ·intro h;have:=congrArg UInt8.toNat h;rw[UInt8.toNat_ofNat',UInt8.toNat_ofNat',Nat.mod_eq_of_lt (by omega),Nat.mod_eq_of_lt (by omega)]at this;exact this
   ·rintro rfl;rfl
  rw[Bool.eq_iff_iff,hxe];simp only[Bool.or_eq_true,z8,zE,hxy];rcases Nat.lt_trichotomy x y with h | h | h
  ·have:P*x+P<=P*y:=by rw[<-Nat.mul_succ];exact Nat.mul_le_mul_left _ h
   constructor
   ·intro _;omega
   ·intro _;exact .inl h
  ·subst h;constructor
   ·rintro(h | ⟨_,h⟩)<;>omega
   ·intro h;exact .inr ⟨rfl,by omega⟩
  ·have:P*y+P<=P*x:=by rw[<-Nat.mul_succ];exact Nat.mul_le_mul_left _ h
   constructor
   ·rintro(h | ⟨h,_⟩)<;>omega
   ·intro h;omega
structure Kp where
 n:Nat
 x:Nat
 u:Nat
 r:Str
def hdK (c:Nat):Str:=[114,UInt8.ofNat c]
def Kp.fine (k:Kp):Prop:=1<=k.n/\k.n<=2147483647/\k.x<4294967296/\k.u<18446744073709551616/\k.r.length<=188
theorem zMZ {c:Nat}(hc:c<255)(k v:Str):inP (hdK c) (hdK (c+1)) (k,v)=true↔ ∃t,k=hdK c++t:=by
 have n1:(UInt8.ofNat c).toNat=c:=by rw[UInt8.toNat_ofNat'];omega
 have n2:(UInt8.ofNat (c+1)).toNat=c+1:=by rw[UInt8.toNat_ofNat'];omega
 have h114:(114:UInt8).toNat=114:=rfl;have hahead:y6 (hdK (c+1)) k=ltS k (hdK (c+1)):=by simp[y6,hdK]
 simp only[inP,hahead,z8,Bool.not_eq_true'];constructor
 ·rintro⟨h1,h2⟩
  match k,h1,h2 with
  | [],h1,h2=>simp[ltS,Go.Op.bytesLess,hdK]at h1
  | [a],h1,h2=>
   rw[hdK,kB]at h1 h2;simp only[Bool.or_eq_false_iff,Bool.and_eq_false_iff,decide_eq_false_iff_not,beq_eq_false_iff_ne,Bool.or_eq_true,z8,zE,beq_iff_eq]at h1 h2;obtain⟨h1,h3⟩:=h1;rcases h2 with h2 | ⟨h2,_⟩
   ·exact absurd h2 h1
   ·rcases h3 with h3 | h3
    ·exact absurd h2 h3
    ·simp[ltS,Go.Op.bytesLess]at h3
  | a::b::t,h1,h2=>
   rw[hdK,kB,kB]at h1 h2;simp only[Bool.or_eq_false_iff,Bool.and_eq_false_iff,decide_eq_false_iff_not,beq_eq_false_iff_ne,Bool.or_eq_true,z8,zE,beq_iff_eq,UInt8.lt_iff_toNat_lt,n1,n2,h114]at h1 h2;obtain⟨h1,h3⟩:=h1;rcases h2 with h2 | ⟨rfl,h2⟩
   ·omega
   ·rcases h3 with h3 | ⟨h3,h4⟩
    ·exact absurd rfl h3
    ·have hb:b.toNat=c:=by
      rcases h2 with h2 | ⟨h2,h5⟩
      ·omega
      ·cases t<;>simp[ltS,Go.Op.bytesLess]at h5
     refine⟨t, ?_⟩;have:b=UInt8.ofNat c:=by rw[<-UInt8.toNat_inj,n1,hb]
     rw[this];rfl
 ·rintro⟨t,rfl⟩
  constructor
  ·show ltS (114::UInt8.ofNat c::t) (114::UInt8.ofNat c::[])=false;rw[bU,bU]
   cases t<;>rfl
  ·show ltS (114::UInt8.ofNat c::t) (114::UInt8.ofNat (c+1)::[])=true;rw[bU,kB];simp only[Bool.or_eq_true,zE,UInt8.lt_iff_toNat_lt,n1,n2];exact .inl (by omega)
theorem fC {k v:Str}{p:Str×Str} : ∀ {l:Kvs},Srt l->(p∈putP k v l↔p=(k,v)\/(p∈l/\p.1≠k))
 | [],_=>by simp[putP]
 | (a,b)::l,h=>by
  have ih:=fC (k:=k) (v:=v) (p:=p) h.2;simp only[putP];split
  ·rename_i e;subst e;simp only[List.mem_cons];constructor
   ·rintro(e | e)
    ·exact .inl e
    ·exact .inr ⟨.inr e,fun e'=>wY (h.1 p e) e'.symm⟩
   ·rintro(e | ⟨e | e,h'⟩)
    ·exact .inl e
    ·exact absurd (by rw[e]) h'
    ·exact .inr e
  ·rename_i hak;split
   ·rw[List.mem_cons,ih,List.mem_cons];constructor
    ·rintro(e | e | e)
     ·exact .inr ⟨.inl e,by rw[e];exact hak⟩
     ·exact .inl e
     ·exact .inr ⟨.inr e.1,e.2⟩
    ·rintro(e | ⟨e | e,h'⟩)
     ·exact .inr (.inl e)
     ·exact .inl e
     ·exact .inr (.inr ⟨e,h'⟩)
   ·rename_i hlt;have hka:ltS k a=true:=by
     cases hk:ltS k a with
     | true=>rfl
     | false=>exact absurd (xT (by simpa using hlt) hk) hak
    rw[List.mem_cons];constructor
    ·rintro(e | e)
     ·exact .inl e
     ·refine .inr ⟨e, ?_⟩;rcases List.mem_cons.1 e with e | e
      ·rw[e];exact hak
      ·exact fun e'=>wY (y8 hka (h.1 p e)) e'.symm
    ·rintro(e | ⟨e,_⟩)
     ·exact .inl e
     ·exact .inr e
theorem QO {k:Str}{p:Str×Str} : ∀ {l:Kvs},Srt l->(p∈delP k l↔p∈l/\p.1≠k)
 | [],_=>by simp[delP]
 | (a,b)::l,h=>by
  have ih:=QO (k:=k) (p:=p) h.2;simp only[delP];split
  ·rename_i e;subst e;rw[List.mem_cons];constructor
   ·intro e;exact⟨.inr e,fun e'=>wY (h.1 p e) e'.symm⟩
   ·rintro⟨e | e,h'⟩
    ·exact absurd (by rw[e]) h'
    ·exact e
  ·rename_i hak;rw[List.mem_cons,ih,List.mem_cons];constructor
   ·rintro(e | ⟨e,h'⟩)
    ·exact⟨.inl e,by rw[e];exact hak⟩
    ·exact⟨.inr e,h'⟩
   ·rintro⟨e | e,h'⟩
    ·exact .inl e
    ·exact .inr ⟨e,h'⟩
theorem srt_ext: ∀ {a b:Kvs},Srt a->Srt b->(∀p,p∈a↔p∈b)->a=b
 | [],[],_,_,_=>rfl
 | [],y::b,_,_,h=>by have:=(h y).2 (zB ..);simp at this
 | x::a,[],_,_,h=>by have:=(h x).1 (zB ..);simp at this
 | (k,v)::a,(k',v')::b,ha,hb,h=>by
  have e:(k,v)=(k',v'):=by
   rcases List.mem_cons.1 ((h (k,v)).1 (zB ..))with e | e
   ·exact e
   ·rcases List.mem_cons.1 ((h (k',v')).2 (zB ..))with e' | e'
    ·exact e'.symm
    ·have h1:=hb.1 _ e;have h2:=ha.1 _ e';have:=y8 h1 h2;rw[qY]at this;cases this
  rw[e];congr 1;refine srt_ext ha.2 hb.2 fun p=>⟨fun hp=> ?_,fun hp=> ?_⟩
  ·rcases List.mem_cons.1 ((h p).1 (zA _ hp))with e' | e'
   ·have:=ha.1 p hp;rw[e',<-e,qY]at this;cases this
   ·exact e'
  ·rcases List.mem_cons.1 ((h p).2 (zA _ hp))with e' | e'
   ·have:=hb.1 p hp;rw[e',e,qY]at this;cases this
   ·exact e'
theorem zBl {k v:Str} : ∀ {l:Kvs},Srt l->(lookP k l=some v↔(k,v)∈l)
 | [],_=>by simp[lookP]
 | (a,b)::l,h=>by
  have ih:=zBl (k:=k) (v:=v) h.2;simp only[lookP];split
  ·rename_i e;subst e;rw[List.mem_cons];constructor
   ·intro e;simp at e;exact .inl (by rw[e])
   ·rintro(e | e)
    ·simp at e;rw[e]
    ·have:=h.1 _ e;rw[qY]at this;cases this
  ·rename_i hak;rw[ih,List.mem_cons];constructor
   ·exact .inr
   ·rintro(e | e)
    ·exact absurd (by simp at e;exact e.1.symm) hak
    ·exact e
def Row (l:List Kp):Prop:=l.Pairwise (fun a b=>a.n<b.n)/\ ∀k∈l,k.fine
end Go.Dr
end
