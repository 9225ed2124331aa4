/- A checked evaluator for the program, and what it tells, part 8: no condition. -/
import Derived.Test.YtaaflpnhdkoaeaaGreatO7
import Derived.Test.YtaaflpnhdkoaeaaGreatRows
import Derived.ProofKit
import Derived.OpenShut
import Derived.Carry
set_option linter.all false
set_option linter.unusedVariables false
set_option linter.unusedSimpArgs false
set_option maxHeartbeats 8000000
set_option maxRecDepth 20000
section
set_option maxRecDepth 20000
namespace Go.Eng.Sh
open Go.Nd (Ptr sumL leafOf Kvs Srt mayK putP delP lookP)
open Go.Bt Go.Bk
theorem zIo (k:Str)(kv:Kvs):QJ k kv=if mayK k then(if(lookP k kv).isSome then 0 else 5)else 1:=rfl
theorem zKJ {k:Str}{kv:Kvs}(h: ∀p∈kv,mayK p.1=true):decide (((QJ k kv:Nat):Int)=((0:Nat):Int))=(lookP k kv).isSome:=by
 rw[zIo]
 cases hl:lookP k kv with
 | none=>cases mayK k<;>simp
 | some v=>
  have hm:mayK k=true:=by
   by_cases e:mayK k=true
   .exact e
   .rw[Nd.look_none (fun p hp a=>e (by rw[<-a];exact h p hp))]at hl;cases hl
  simp[hm]
theorem Gst.srt {E:Ev}{H:AH}{Gd Ad a At M L txg f:Nat}{is:Nat->Nat}{V W:Nat->Prop}{root:Ptr}{q:PN}{kv:Kvs}{T:List Ptr}(w:Gst E H Gd Ad a At M L txg f is V W root q kv T):Srt kv/\ ∀p∈kv,mayK p.1=true/\p.2.length<=200:=by
 obtain⟨_,_,_,_,_,_,_,_,_,hr,_⟩:=w.tx;exact hr.srt
theorem zJI (D:Dyn)(n:Nat){E:Ev}{H:AH}{At M L:Nat}{W:Nat->Prop}{d c:AV}{root:Ptr}{q:PN}{kv:Kvs}{T:List Ptr}(a:bD d c E H At M L W root q kv T): ∃H',f19 D n [.ptr At 0] H=some (.agg (qZ root),H')/\Prs H H':=by
 obtain⟨_,_,_,_,f,_⟩:=a;exact zDl D n f
theorem Gst.side {E:Ev}{H H':AH}{Gd Ad p At M L txg t:Nat}{is:Nat->Nat}{V W:Nat->Prop}{root:Ptr}{q:PN}{kv:Kvs}{T:List Ptr}(w:Gst E H Gd Ad p At M L txg t is V W root q kv T){A e:Nat}{x:AV}{r:List AV}(m:H.h.get A=some (.cells (x::r) e 1 false))(N: ∀a b,x≠ .str a b)(i: ¬(W A\/V A))(O:A≠Gd)(s:Stp (fun B=>B=A) H H'):Gst E H' Gd Ad p At M L txg t is V W root q kv T:=by
 obtain⟨u,S,U,Y,v,gl⟩:=w;have y:=u.d.okH;have o:=DskG.stp S y s (fun B f e=>i (.inr (e▸f))) (fun B ks es' z e=>by rw[e,m]at z;cases z);obtain⟨Z,es,F,h1,C,h3,h4,h5,h6,h7,j⟩:=u;refine⟨⟨Z,es,F,h1, ?_,h3,h4,h5,h6,h7,j⟩,o,U,Y,by rw[s.keep _ (y.lt v) (fun e=>O e.symm)];exact v,gl.mono s fun B f e=> ?_⟩
 .obtain⟨On,Nw,wv,dm,dk,sp,hV,_⟩:=o;refine C.wr s (fun B f e=> ?_) dk;subst e;rcases f with e | e | e | ⟨kv,J,e⟩
  .exact i (.inl ((j _).2 (.inl e)))
  .exact i (.inl ((j _).2 (.inr (.inl e))))
  .exact i (.inl ((j _).2 (.inr (.inr e))))
  .obtain⟨nd,K⟩:=C.pq.node kv J;exact K.nblk m (.inl ⟨_,_,_,_,rfl,N⟩) e
 .obtain⟨l,e',g,h⟩:=yV.get2 gl f;subst e;rw[m]at h;simp at h
def GS (H0:AH)(Gd i:Nat)(kv:Kvs)(H:AH):Prop:= ∃E Ad a At M L txg f is V W root q T,Gst E H Gd Ad a At M L txg f is V W root q kv T/\L<=200*i/\txg<=i/\kv.length<=i/\Prs H0 H/\ ∀B,(W B\/V B\/B=Gd)->H0.next<=B
theorem GS.prs {H0 H H':AH}{Gd i:Nat}{kv:Kvs}(g:GS H0 Gd i kv H)(p:Prs H H'):GS H0 Gd i kv H':=by
 obtain⟨E,Ad,f,At,M,L,txg,h,is,V,W,root,q,T,w,a,b,c,d,e⟩:=g;exact⟨E,Ad,f,At,M,L,txg,h,is,V,W,root,q,T,w.prs p,a,b,c,d.trans p,e⟩
theorem zEZ (m n:Nat)(hm:400000000<=m)(hn:300000000<=n){H0 H:AH}(k2:H0.ok){v:AV}{l:List Sw}(hv:SwR H0 v l){Gd i:Nat}(hi:i<l.length)(hl:l.length<=60){kv:Kvs}(g:GS H0 Gd i kv H):
  ∃H',Z9 (dy (m+2)) n [.ptr Gd 0,v, .int .i64 ((i:Nat):Int)] H=some (.norm [.ptr Gd 0,v, .int .i64 ((i+1:Nat):Int)],H')/\GS H0 Gd (i+1) (Q0 l[i] kv) H':=by
 obtain⟨E,Ad,C,At,M,L,txg,la,is,V,W,root,q,T,w,hL,k3,k4,p0,j⟩:=g;have f1:SwR H v l:=hv.prs p0;have a9:=f1.lnSl;have b0:((i:Nat):Int)< ((l.length:Nat):Int):=by omega
 have hi1:((i:Nat):Int)+((1:Nat):Int)=((i+1:Nat):Int):=by omega
 obtain⟨A,o,i1,i2,_,_,_⟩:=f1.at hi;have b2:=i1 .i64 _ rfl;generalize l[i]=s at*
 obtain⟨hs,h2⟩:=w.srt;have hk:=w.tx.d.okH;obtain⟨H1,F,b1,p1,g1,m1,n1⟩:=box hk (.cells [.int .u8 ((0:Nat):Int), .str 0 0, .str 0 0] 113 1 false);obtain⟨H2,e2,g2,s2,n2⟩:=y9 p1.ok g1 (l':=swV s) rfl rfl;have b3:stN 3 (.ptr F 0) (.agg (swV s)) H1=some (qX,H2):=e2;have b5:bxV 113 (.agg [.int .u8 ((0:Nat):Int), .str 0 0, .str 0 0])=some (.cells [.int .u8 ((0:Nat):Int), .str 0 0, .str 0 0] 113 1 false,fun A=> .ptr A 0):=rfl;have P2:Prs H H2:=p1.fresh s2 fun B a=>by omega
 have N1:=p1.next;have N2:=s2.next;have N0:=p0.next
 have w2:=w.prs P2;have d0:=p0.trans P2;have f2:=P2.ok;obtain⟨N,a2,d1⟩:=w2.gG;have l6:F<H2.next:=f2.lt g2
 have z6: ¬(W F\/V F):=fun h=>by
  rcases h with h | h
  .have:=w.tx.d.lt F h;omega
  .have:=w.ds.lt hk F h;omega
 have rd: ∀ {G:AH},G.h.get F=some (.cells (swV s) 113 1 false)->Eng.ld1 (.ptr F 0) G=some (.int .u8 ((s.kd:Nat):Int))/\Eng.ld1 (.ptr F 1) G=some (S s.k)/\Eng.ld1 (.ptr F 2) G=some (S s.v):=fun h=>⟨by rw[qT h];rfl,by rw[qT h];rfl,by rw[qT h];rfl⟩
 obtain⟨y0,y1,y2⟩:=rd g2;have rg: ∀ {G:AH} {at_:Nat} {N:AV} {t:Nat},G.h.get Gd=some (.cells [.ptr at_ 0,N, .ptr Ad 0, .ptr C 0, .int .i64 ((t:Nat):Int)] 104 1 false)->Eng.ld1 (.ptr Gd 0) G=some (.ptr at_ 0)/\Eng.ld1 (.ptr Gd 1) G=some N/\Eng.ld1 (.ptr Gd 2) G=some (.ptr Ad 0)/\Eng.ld1 (.ptr Gd 3) G=some (.ptr C 0)/\Eng.ld1 (.ptr Gd 4) G=some (.int .i64 ((t:Nat):Int)):=fun h=>⟨by rw[qT h];rfl,by rw[qT h];rfl,by rw[qT h];rfl,by rw[qT h];rfl,by rw[qT h];rfl⟩
 obtain⟨x0,x1,_,x3,x4⟩:=rg a2;have k1:=zFY s kv hs;have nG:F≠Gd:=fun e=>by rw[e,a2]at g2;simp[swV]at g2
 by_cases c6:s.kd=0
 .have b6:((s.kd:Nat):Int)=((0:Nat):Int):=by omega
  obtain⟨H3,E3,W3,T3,e3,t3,O,c3⟩:=zN2 m n (by omega) hn (k:=s.k) (v:=s.v) w2.tx.d (by omega) (by omega);obtain⟨a1,q3,u⟩:=t3.x;obtain⟨b8,b9,a4,a6⟩:=w2.tree u O c3 a2 d1;have N3:=O.1.next
  have c0:Prs H0 H3:=d0.fresh O.1 fun B a=>j B (.inl a)
  have b7: ∀B,(W3 B\/V B\/B=Gd)->H0.next<=B:=fun B a=>by
   rcases a with x | x | x
   .rcases O.2 B x with y | y
    .exact j B (.inl y)
    .omega
   .exact j B (.inr (.inl x))
   .exact j B (.inr (.inr x))
  by_cases hp:JT s.k s.v=true
  .rw[if_pos hp]at e3 u;have g3:=(O.1.keep F l6 (fun h=>z6 (.inl h))).trans g2;obtain⟨_,d2,h3⟩:=rd g3;obtain⟨d3,d4,_⟩:=rg a4;obtain⟨H4,v4,e4,f,g4⟩:=zMS (dy (m+2)) n u.d.okH hs a6.row (by omega) (by omega) s.k s.v;have J:=Prs.get f u.d.okH a4;obtain⟨H5,e5,g5,s5,n5⟩:=stG f.ok (y:=v4) 1 [.ptr At 0,v4, .ptr Ad 0, .ptr C 0, .int .i64 ((txg:Nat):Int)] rfl (by omega) J g4.1.row.isCell;have a0:Q0 s kv=putP s.k s.v kv:=by simp only[Q0,c6,if_true,hp]
   have h4:bD (.ptr Ad 0) .nilPtr E3 H4 At M (L+200) W3 a1 q3 (putP s.k s.v kv) T3:=by
    obtain⟨dr,es,c7,z1,z2,z3⟩:=u;exact⟨dr,es,c7,z1,z2.prs f,z3⟩
   refine⟨H5, ?_,E3,Ad,C,At,M,L+200,txg,la,is,V,W3,a1,q3,T3, ?_,by omega,by omega,by omega,(c0.trans f).fresh s5 fun B a=>j B (.inr (.inr a)),b7⟩
   .simp(maxSteps:=999999)(disch:=omega) only[Z9,eZ,a9,b0,b2,i2,b5,b1,b3,y0,b6,x0,y1,y2,e3,d4,d2,h3,e4,e5,KO,KN,KP,hi1]
   .rw[a0];exact Gst.note h4 (b8.prs u.d.okH f) b9 J s5 g5 g4.1
  .rw[if_neg hp]at e3 u;have d5: ¬((1:Nat):Int)=((0:Nat):Int):=by omega
   have a0:Q0 s kv=kv:=by simp only[Q0,c6,if_true,hp,if_false];rfl
   refine⟨H3, ?_,E3,Ad,C,At,M,L+200,txg,la,is,V,W3,a1,q3,T3, ?_,by omega,by omega,by omega,c0,b7⟩
   .simp(maxSteps:=999999)(disch:=omega) only[Z9,eZ,a9,b0,b2,i2,b5,b1,b3,y0,b6,x0,y1,y2,e3,d5,KO,KN,KP,hi1]
   .rw[a0];exact⟨u,b8,b9,N,a4,a6⟩
 .have b6: ¬((s.kd:Nat):Int)=((0:Nat):Int):=by omega
  by_cases f3:s.kd=1
  .have c1:((s.kd:Nat):Int)=((1:Nat):Int):=by omega
   obtain⟨H3,E3,W3,T3,e3,t3,O,c3⟩:=zNX m n (by omega) hn (k:=s.k) w2.tx.d (by omega) (by omega);obtain⟨a1,q3,u⟩:=t3.x;obtain⟨b8,b9,a4,a6⟩:=w2.tree u O c3 a2 d1;have N3:=O.1.next
   have c0:Prs H0 H3:=d0.fresh O.1 fun B a=>j B (.inl a)
   have b7: ∀B,(W3 B\/V B\/B=Gd)->H0.next<=B:=fun B a=>by
    rcases a with x | x | x
    .rcases O.2 B x with y | y
     .exact j B (.inl y)
     .omega
    .exact j B (.inr (.inl x))
    .exact j B (.inr (.inr x))
   have hd:=zKJ (k:=s.k) fun p hp=>(h2 p hp).1
   have g8:(if QJ s.k kv=0 then delP s.k kv else kv)=delP s.k kv:=by
    by_cases e:QJ s.k kv=0
    .rw[if_pos e]
    .rw[if_neg e];have:(lookP s.k kv).isSome=false:=by rw[<-hd];exact decide_eq_false (by omega)
     exact(del_none (look_not (by simpa using this))).symm
   rw[g8]at u;have g3:=(O.1.keep F l6 (fun h=>z6 (.inl h))).trans g2;obtain⟨_,d2,_⟩:=rd g3;obtain⟨_,d4,_⟩:=rg a4;obtain⟨H4,e4,f⟩:=zMV (dy (m+2)) n u.d.okH hs a6.row (by omega) (by omega) s.k;have J:=Prs.get f u.d.okH a4;obtain⟨_,h5,_⟩:=rg J;obtain⟨_,h6,_⟩:=rd (Prs.get f u.d.okH g3);obtain⟨H5,v5,e5,U,g5,_⟩:=zCb (dy (m+2)) n f.ok (a6.prs f).row (by omega) (by omega) s.k;rw[Nd.filt_del s.k hs]at g5;have a7:=Prs.get U f.ok J;obtain⟨H6,e6,g6,Y,n6⟩:=stG U.ok (y:=v5) 1 [.ptr At 0,v5, .ptr Ad 0, .ptr C 0, .int .i64 ((txg:Nat):Int)] rfl (by omega) a7 g5.1.row.isCell;have a0:Q0 s kv=delP s.k kv:=by simp only[Q0,f3,if_true];rfl
   have c2:bD (.ptr Ad 0) .nilPtr E3 H5 At M (L+200) W3 a1 q3 (delP s.k kv) T3:=by
    obtain⟨dr,es,c7,z1,z2,z3⟩:=u;exact⟨dr,es,c7,z1,z2.prs (f.trans U),z3⟩
   have h7:(!(decide (((QJ s.k kv:Nat):Int)=((0:Nat):Int))==(lookP s.k kv).isSome))=false:=by rw[hd];simp
   have h8: ∀K:Rs,chk (some N) N K=K:=fun K=>j8 rfl (yL a6.row)
   have h9: ∀K:Rs,chk (some (S s.k)) (S s.k) K=K:=fun K=>j8 rfl (by simp[aveq,S])
   have i0: ∀x y:Rs,cnd (.bool false) x y=y:=fun _ _=>rfl
   have d5: ¬((1:Nat):Int)=((0:Nat):Int):=by omega
   refine⟨H6, ?_,E3,Ad,C,At,M,L+200,txg,la,is,V,W3,a1,q3,T3, ?_,by omega,by omega,by omega,((c0.trans f).trans U).fresh Y fun B a=>j B (.inr (.inr a)),b7⟩
   .simp(maxSteps:=999999)(disch:=omega) only[Z9,eZ,a9,b0,b2,i2,b5,b1,b3,y0,c1,d5,x0,y1,x1,e3,d4,d2,h8,h9,e4,WS,h7,i0,h5,h6,e5,e6,XG,KN,KP,hi1]
   .rw[a0];exact Gst.note c2 (b8.prs u.d.okH (f.trans U)) b9 a7 Y g6 g5.1
  .have c1: ¬((s.kd:Nat):Int)=((1:Nat):Int):=by omega
   have a0:Q0 s kv=kv:=by simp only[Q0,c6,f3,if_false]
   have f4:((txg:Nat):Int)+((1:Nat):Int)=((txg+1:Nat):Int):=by omega
   obtain⟨H3,e3,g3,s3,n3⟩:=stG f2 (y:= .int .i64 ((txg+1:Nat):Int)) 4 [.ptr At 0,N, .ptr Ad 0, .ptr C 0, .int .i64 ((txg+1:Nat):Int)] rfl (by omega) a2 rfl;have w3:Gst E H3 Gd Ad C At M L (txg+1) la is V W root q kv T:=Gst.note w2.tx w2.ds w2.us a2 s3 g3 d1;obtain⟨H4,A7,b4,f,g4,m4,n4⟩:=box s3.ok (.cells [.int .i64 ((0:Nat):Int), .int .i64 ((0:Nat):Int), .int .u64 ((0:Nat):Int)] 42 1 false);have e1:bxV 42 (.agg [.int .i64 ((0:Nat):Int), .int .i64 ((0:Nat):Int), .int .u64 ((0:Nat):Int)])=some (.cells [.int .i64 ((0:Nat):Int), .int .i64 ((0:Nat):Int), .int .u64 ((0:Nat):Int)] 42 1 false,fun A=> .ptr A 0):=rfl;have Z:=w3.prs f;have J:=Prs.get f s3.ok g3;have N3:=s3.next;have N4:=f.next
   have f5:Prs H0 H4:=(d0.fresh s3 fun B a=>j B (.inr (.inr a))).trans f;have l7:A7<H4.next:=f.ok.lt g4
   have z7: ¬(W A7\/V A7):=fun h=>by
    rcases h with h | h
    .have:=w3.tx.d.lt A7 h;omega
    .have:=w3.ds.lt s3.ok A7 h;omega
   have d6:A7≠Gd:=fun e=>by rw[e,J]at g4;simp at g4
   obtain⟨_,_,_,_,_⟩:=rg g3;obtain⟨d3,_,_,f6,f7⟩:=rg g3;have k5:=(rg J).1;obtain⟨k6,c8,h0⟩:=Z.gG;have f8:GrP H4 N kv:=by
    rw[J]at c8;simp only[zB,AObj.cells.injEq,List.cons.injEq]at c8;rw[c8.1.2.1];exact h0
   have i3: ¬(((0:Nat):Int)≠((0:Nat):Int)):=by omega
   have i4:((3:Nat):Int)≠((0:Nat):Int):=by omega
   obtain⟨H5,⟨_,e5,U⟩ | ⟨k8,c4,d7,la',V',a8,T',M',W',dr,e5,c2,i5,o5,a5,k9,l0⟩⟩:=zJm (m+2) n (by omega) (by omega) (txg:=txg+1) Z.tx Z.ds (fun r hr d8=>Z.us r (qC _ (WG.2 ⟨hr,d8⟩))) (by omega) (by omega) (by omega)
   .obtain⟨H6,e6,g6,Y,n6⟩:=y9 U.ok (Prs.get U f.ok g4) (l':=[.int .i64 ((0:Nat):Int), .int .i64 ((0:Nat):Int), .int .u64 ((0:Nat):Int)]) rfl rfl;have d9:stN 3 (.ptr A7 0) (.agg [.int .i64 ((0:Nat):Int), .int .i64 ((0:Nat):Int), .int .u64 ((0:Nat):Int)]) H5=some (qX,H6):=e6;refine⟨H6, ?_,E,Ad,C,At,M,L,txg+1,la,is,V,W,root,q,T, ?_,by omega,by omega,by omega,(f5.trans U).fresh Y fun B a=>by omega,j⟩
    .simp(maxSteps:=999999)(disch:=omega) only[Z9,eZ,a9,b0,b2,i2,b5,b1,b3,y0,b6,c1,x4,f4,e3,d3,f6,f7,e1,b4,e5,qV,nth,d9,i4,ne_eq,not_false_eq_true,if_true,KP,hi1]
    .rw[a0];exact(Z.prs U).side (Prs.get U f.ok g4) (fun _ _ h=>by cases h) z7 d6 Y
   .obtain⟨k7,i6,l1⟩:=a5.keep (A:=A7) l7 z7;obtain⟨kG,zG,lG⟩:=a5.keep (A:=Gd) (f.ok.lt J) (fun h=>by
     obtain⟨o1,o2⟩:=zAQ Z.tx Z.ds J (.inr ⟨_,rfl⟩);rcases h with h | h;exact o1 h;exact o2 h)
    have a7:=kG.trans J;have g5:=k7.trans g4;have f9:=c2.d.okH;have i7:=o5.used (fun r hr d8=>Z.us r (qC _ (WG.2 ⟨hr,d8⟩)));have i8:GrP H5 N kv:=f8.mono a5.1 fun B a=>by
     obtain⟨l,e,g,h⟩:=yV.get2 f8 a;obtain⟨y1,y2⟩:=zAQ Z.tx Z.ds h (.inl ⟨_,_,_,rfl⟩);exact fun x=>by rcases x with x | x;exact y1 x;exact y2 x
    have w5:Gst { E with ws:=c4,dl:=[] } H5 Gd Ad C At M' L (txg+1) la' d7 V' W' a8 [] kv T':=⟨c2,i5,fun r hr=>by rw[List.append_nil]at hr;exact(i7 r (WG.1 hr).1).2,N,a7,i8⟩;obtain⟨H6,e6,g6,Y,n6⟩:=y9 f9 g5 (l':=qZ a8) rfl rfl;have d9:stN 3 (.ptr A7 0) (.agg (qZ a8)) H5=some (qX,H6):=e6;have w6:=w5.side g5 (fun _ _ h=>by cases h) i6 d6 Y;obtain⟨H7,e7,p7⟩:=zJI (dy (m+2)) n w6.tx;have w7:=w6.prs p7;obtain⟨On,Nw,wv,dm,i9,_⟩:=id w7.ds;obtain⟨_,_,_,_,_,_,_,_,_,j0,_⟩:=w7.tx;obtain⟨H8,c5,M8,W8,e8,p8,j1,j2⟩:=zDv (dy (m+2)) n (by omega) (E:= { E with ws:=c4,dl:=[] }) p7.ok (Ad:=Ad) ⟨On,Nw,wv,dm,i9⟩ j0;have w8:=w7.prs p8;have g0:H6.h.get Gd=_:=(Y.keep Gd (f9.lt a7) (fun e=>d6 e.symm)).trans a7;have g7:=Prs.get p7 Y.ok g0;have e0:=Prs.get p8 p7.ok g7;obtain⟨j3,_,j4,_,_⟩:=rg g0;obtain⟨_,_,j5,_,_⟩:=rg g7;obtain⟨l2,c9,h1⟩:=w8.gG;have j6:GrP H8 N kv:=by
     rw[e0]at c9;simp only[zB,AObj.cells.injEq,List.cons.injEq]at c9;rw[c9.1.2.1];exact h1
    obtain⟨H9,e9,g9,s9,n9⟩:=stG p8.ok (y:= .ptr c5 0) 0 [.ptr c5 0,N, .ptr Ad 0, .ptr C 0, .int .i64 ((txg+1:Nat):Int)] rfl (by omega) e0 rfl;have w9:Gst { E with ws:=c4,dl:=[] } H9 Gd Ad C c5 M8 0 (txg+1) la' d7 V' W8 a8 [] kv T':=Gst.note j1 w8.ds w8.us e0 s9 g9 j6;have j7: ∀K:Rs,chk (some (.ptr Ad 0)) (.ptr Ad 0) K=K:=fun K=>j8 rfl (by simp[aveq])
    have N5:=a5.1.next;have N6:=Y.next;have N7:=p7.next;have N8:=p8.next
    have j9:Prs H0 H5:=f5.fresh a5.1 fun B a=>j B (by rcases a with h | h;exact .inl h;exact .inr (.inl h))
    have k0:Prs H0 H8:=((j9.fresh Y fun B a=>by omega).trans p7).trans p8;refine⟨H9, ?_, { E with ws:=c4,dl:=[] },Ad,C,c5,M8,0,txg+1,la',d7,V',W8,a8,[],T',by rw[a0];exact w9,by omega,by omega,by omega,k0.fresh s9 fun B a=>j B (.inr (.inr a)),fun B a=> ?_⟩
    .simp(maxSteps:=999999)(disch:=omega) only[Z9,eZ,a9,b0,b2,i2,b5,b1,b3,y0,b6,c1,x4,f4,e3,d3,f6,f7,e1,b4,e5,qV,nth,d9,i3,j3,j4,e7,j5,j7,e8,e9,XG,KN,KP,hi1]
    .rcases a with x | x | x
     .have:=j2 B x;omega
     .rcases a5.2 B (.inr x)with z | z
      .exact j B (by rcases z with h | h;exact .inl h;exact .inr (.inl h))
      .omega
     .exact j B (.inr (.inr x))
end Go.Eng.Sh
end
section
set_option maxRecDepth 20000
namespace Go.Eng.Sh
open Go.Nd (Ptr sumL leafOf Kvs Srt mayK putP delP lookP)
open Go.Bt Go.Bk
theorem zDF {H H':AH}(f:H.ok)(P:Prs H H'){A j:Nat}{x:AV}(h:ld1 (.ptr A j) H=some x):ld1 (.ptr A j) H'=some x:=by
 cases a:H.h.get A with
 | none=>simp[ld1,a]at h
 | some o=>rw[P.ld1 j (f.lt a) (fun x=>x)];exact h
def aQ (l:List Sw):Kvs:=l.foldl (fun kv s=>Q0 s kv) []
theorem grow_ok (m n:Nat)(hm:400000000<=m)(y:300000000<=n){H0 H:AH}(s:H0.ok){v:AV}{l:List Sw}(j:SwR H0 v l){Gd:Nat}(hl:l.length<=60)(g:GS H0 Gd 0 [] H):
  ∃H',f64 (dy (m+2)) n [.ptr Gd 0,v] H=some (.bool true,H')/\GS H0 Gd l.length (aQ l) H':=by
 have z:=wI (b:=Z9 (dy (m+2)) n) l.length (fun i f H'=>f=[.ptr Gd 0,v, .int .i64 ((i:Nat):Int)]/\GS H0 Gd i (aQ (l.take i)) H') (fun i f H' hi ⟨t,g⟩=>by
  subst t;obtain⟨C,F,J⟩:=zEZ m n hm y s j hi hl g;refine⟨_,C,F,rfl, ?_⟩;have:aQ (l.take (i+1))=Q0 l[i] (aQ (l.take i)):=by
   rw[aQ,zU hi,List.foldl_append];rfl
  rw[this];exact J) n _ H ⟨rfl,g⟩ (by omega)
 obtain⟨q,f,a,K,rfl,h⟩:=z;rw[qJ]at h;have u:SwR a v l:=by
  obtain⟨_,_,_,_,_,_,_,_,_,_,_,_,_,_,_,_,_,_,p,_⟩:=h;exact j.prs p
 have x:=u.lnSl;refine⟨a, ?_,h⟩;have o:yF (q+1) (Z9 (dy (m+2)) n) [.ptr Gd 0,v, .int .i64 ((l.length:Nat):Int)] a=some (.exit 0 [],a):=y7 (by simp only[Z9,eZ,x,qB]);simp(maxSteps:=999999)(disch:=omega) only[f64,eZ,K,o,zHB]
theorem zJY (m n:Nat)(hm:400000000<=m)(S:300000000<=n){H:AH}(u:H.ok){v:AV}{l:List Sw}(U:SwR H v l)(hl:l.length<=60):
  ∃H' Gd,f52 (dy (m+2)) n [v] H=some (.tuple [.ptr Gd 0, .bool true],H')/\GS H Gd l.length (aQ l) H':=by
 obtain⟨H1,Ad,y,j,V,h,m1,mO,mN,Y⟩:=zKG (dy (m+2)) n u (nb:=1024) (by omega) (by omega);obtain⟨Z,a,e2,f,m2,sp⟩:=zMI (dy (m+2)) n (by omega) h.ok (nb:=1024) (by omega) (by omega);have s:=Y.prs h.ok f;obtain⟨H4,At,M,W,e4,o,tx,J⟩:=zDv (dy (m+2)) n (by omega) (E:=⟨1024,[],[]⟩) f.ok (p:=pZ) (kv:=[]) (T:=[]) ⟨y,j,_,_,s⟩ (.inl ⟨rfl,rfl,rfl⟩);obtain⟨q,Gd,b5,z,g5,m5,n5⟩:=box o.ok (.cells [.ptr At 0, .nilSlice, .ptr Ad 0, .ptr a 0, .int .i64 ((0:Nat):Int)] 104 1 false);have N1:=h.next;have N2:=f.next;have N4:=o.next
 have i:=o.trans z;have K:=sp.stp f.ok i fun x=>x
 have L:=s.prs f.ok i;have N:bD (.ptr Ad 0) .nilPtr ⟨1024,[],[]⟩ q At M 0 W pZ [] [] []:=by
  obtain⟨dr,es,F,h1,h2,h3⟩:=tx;exact⟨dr,es,F,h1,h2.prs z,h3⟩
 have w:Gst ⟨1024,[],[]⟩ q Gd Ad a At M 0 0 0 zNc (fun B=>B=a\/B=Ad\/B=j\/Blk .nilSlice B) W pZ [] [] []:=⟨N,⟨y,j,_,_,L,K,fun B=>Iff.rfl,by decide,by decide,by decide, .inr rfl,⟨by decide,by decide⟩,by
  have:=zEd zNc 0 1024;show 0+cnt zNc 0 1024<=990000;omega⟩,by simp[dsk],⟨.nilSlice,g5, .inl (Own.nil ..)⟩⟩
 obtain⟨C,e6,g6⟩:=grow_ok m n hm S u U hl (Gd:=Gd) (H:=q) ⟨⟨1024,[],[]⟩,Ad,a,At,M,0,0,0,zNc,_,W,pZ,[],[],w,by omega,by omega,by simp,(h.trans f).trans i,fun B hB=>by
  rcases hB with e | (e | e | e | e) | e
  .have:=J B e;omega
  .omega
  .omega
  .omega
  .exact(Blk.nil.1 e).elim
  .omega⟩
 have t: ¬(((0:Nat):Int)≠((0:Nat):Int)):=by omega
 have bz:wY [(0,1),(1,1),(2,1)] [.int .i64 ((0:Nat):Int), .int .i64 ((0:Nat):Int), .int .u64 ((0:Nat):Int)] []=some (.agg (qZ pZ)):=rfl;have bs:wY [(0,1),(1,1),(2,1),(3,1),(4,1)] [.nilPtr, .nilSlice, .nilPtr, .nilPtr, .int .i64 ((0:Nat):Int)] [(0, .ptr At 0),(2, .ptr Ad 0),(3, .ptr a 0)]=some (.agg [.ptr At 0, .nilSlice, .ptr Ad 0, .ptr a 0, .int .i64 ((0:Nat):Int)]):=rfl;have O:bxV 104 (.agg [.ptr At 0, .nilSlice, .ptr Ad 0, .ptr a 0, .int .i64 ((0:Nat):Int)])=some (.cells [.ptr At 0, .nilSlice, .ptr Ad 0, .ptr a 0, .int .i64 ((0:Nat):Int)] 104 1 false,fun A=> .ptr A 0):=rfl;have hb:f63 (dy (m+2)) n [.ptr Ad 0, .ptr a 0,v] Z=some (.tuple [.ptr Gd 0, .bool true],C):=by
  simp(maxSteps:=999999)(disch:=omega) only[f63,eZ,bz,e4,qV,nth,t,bs,O,b5,e6]
 refine⟨C,Gd, ?_,g6⟩;simp(maxSteps:=999999)(disch:=omega) only[f52,eZ,V,e2,qV,nth,t,hb,decide_false,Bool.or_false]
theorem GS.at {H0 H:AH}{Gd i:Nat}{kv:Kvs}(g:GS H0 Gd i kv H): ∃At Ad E M L W root q T a,Eng.ld1 (.ptr Gd 0) H=some (.ptr At 0)/\Eng.ld1 (.ptr Gd 1) H=some a/\bD (.ptr Ad 0) .nilPtr E H At M L W root q kv T/\L<=200*i/\GrP H a kv/\Srt kv/\kv.length<=i/\Prs H0 H:=by
 obtain⟨E,Ad,p,At,M,L,txg,s,is,V,W,root,q,T,w,hL,o,h,j,m⟩:=g;obtain⟨a,f,gl⟩:=w.gG;exact⟨At,Ad,E,M,L,W,root,q,T,a,by rw[qT f];rfl,by rw[qT f];rfl,w.tx,hL,gl,w.srt.1,h,j⟩
theorem zGs (m:Nat)(hm:700000000<=m){H0 H:AH}{Gd i:Nat}{kv:Kvs}(g:GS H0 Gd i kv H)(hi:i<=60)(fr to:Str){most:Nat} : ∃At H' v,Eng.ld1 (.ptr Gd 0) H=some (.ptr At 0)/\f53 (dy (m+1)) (m+1) [.ptr At 0,S fr,S to, .int .i64 ((most:Nat):Int)] H=some (.tuple [v, .bool (decide (most< (yB fr to kv).length)), .int .i64 ((0:Nat):Int)],H')/\Prs H H'/\yV 2 48 H' v ((yB fr to kv).take most).length (((yB fr to kv).take most).flatMap prV)/\(∀B,Blk v B->H.next<=B)/\Eng.ld1 (.ptr Gd 0) H'=some (.ptr At 0)/\GS H0 Gd i kv H':=by
 obtain⟨At,Ad,E,M,L,W,root,q,T,s,a,x1,h,hL,gl,t,o,u⟩:=g.at
 obtain⟨H',v,e,p,j,f⟩:=zGv m hm h (by omega) (by omega) fr to (most:=most) (Nat.zero_le _);exact⟨At,H',v,a,e,p,j,f,zDF h.d.okH p a,g.prs p⟩
theorem zFg (fr to:Str)(kv:Kvs):(yB fr to kv).length<=kv.length:=List.length_filter_le _ _
end Go.Eng.Sh
end
section
set_option maxRecDepth 20000
namespace Go.Eng.Sh
open Go.Nd (Ptr sumL leafOf Kvs)
open Go.Bt
def lpC (a:Nat):ALoop:=⟨.ready,none,56,0,[9],[.ptr a 0]⟩
def zAs (s:Nat)(_:Str×Str):Bool×Nat:=(true,s+1)
theorem zGf: ∀(l:Kvs) (a:Nat),(kE zAs l a).2=a+l.length
 | [],a=>rfl
 | x::l,a=>by
  simp only[kE,zAs,cond_true];rw[zGf l (a+1),zO];omega
structure IC (N0 A1 Bc:Nat)(b:Nat)(x:Bool×Nat)(H:AH)(W:Nat->Prop):Prop where
 ok:H.ok
 gA:H.h.get A1=some (.loop (lpC Bc))
 bc:Box H Bc (.int .i64 ((x.2:Nat):Int))
 hW: ∀B,W B↔(B=A1\/B=Bc)
 lo:N0<=A1/\N0<=Bc
 few:x.2+b<=900000000
theorem zKW (m:Nat){H:AH}{A1 a:Nat}(f:H.h.get A1=some (.loop (lpC a)))(az:List AV):(dy (m+1)).yld A1 az H=zAK (dy m) m A1 (lpC a) az H:=by
 show Q3 (tabR (dy m) m) A1 az H=_;simp only[Q3,f];rfl
theorem zIw {N0 A1 f:Nat}{b:Nat}{s:Nat}{a:Str×Str}{az:List AV}{H:AH}{W:Nat->Prop}(m:Nat)(hi:IC N0 A1 f (b+1) (true,s) H W)(V:encP H W a az):
  ∃H' L,(dy (m+1)).yld A1 az H=some (.bool (zAs s a).1,H')/\IC N0 A1 f b (zAs s a) H' L/\Adw W H L H':=by
 obtain⟨u,q,v,t,U,Y⟩:=hi;obtain rfl:az=[.agg [S a.1,S a.2]]:=V;simp only at v Y;rw[zKW m q];have y:A1≠f:=zCT q v;have F: ∀K:AH->Rs,xN A1 H K=K (H.put A1 (.loop { lpC f with state:= .busy})):=fun K=>by
  simp only[xN,q,lpC,yQ]
 have o:Stp (fun B=>B=A1) H (H.put A1 (.loop { lpC f with state:= .busy})):=(Stp.refl u).put (u.lt q) _ (.inr rfl);have z:(H.put A1 (.loop { lpC f with state:= .busy})).h.get A1=some (.loop { lpC f with state:= .busy}):=by rw[AH.put_get,if_pos rfl]
 generalize H.put A1 (.loop { lpC f with state:= .busy})=H3 at o z F;have J:Box H3 f (.int .i64 ((s:Nat):Int)):=v.mono u o (fun e=>y e.symm);obtain⟨j,Z,b4,p⟩:=J.st o.ok (x:= .int .i64 ((s+1:Nat):Int)) rfl;have N:j.h.get A1=some (.loop { lpC f with state:= .busy}):=by rw[p.keep _ (o.ok.lt z) y];exact z
 have C:Stp (fun B=>B=A1) j (j.put A1 (.loop (lpC f))):=(Stp.refl p.ok).put (p.ok.lt N) _ (.inr rfl);have O:YB A1 none j=some (.bool true,j.put A1 (.loop (lpC f))):=by simp only[YB,N,yQ,lpC]
 refine⟨j.put A1 (.loop (lpC f)),W, ?_,⟨C.ok,by rw[AH.put_get,if_pos rfl],b4.mono p.ok C (fun e=>y e.symm),t,U,by simp only[zAs];omega⟩,⟨((o.mono fun B _ i=>(t B).2 (.inl i)).trans (p.mono fun B _ i=>(t B).2 (.inr i))).trans (C.mono fun B _ i=>(t B).2 (.inl i)),fun B i=> .inl i⟩⟩;have hl:QI [9] (lpC f).live=true:=rfl;have T:(lpC f).vals=[.ptr f 0]:=rfl;have h1:((s:Nat):Int)+((1:Nat):Int)=((s+1:Nat):Int):=by omega
 simp(maxSteps:=999999)(disch:=omega) only[zAK,eZ,hl,T,cond_true,F,J.ld,h1,Z];exact O
theorem zIx (N0 A1 a:Nat):Cns A1 0 N0 encP zAs (IC N0 A1 a) where
 ok:=fun h=>h.ok
 lt:=fun {b x H W} h B f=>by
  rcases(h.hW B).1 f with e | e
  .subst e;exact⟨h.ok.lt h.gA,h.lo.1⟩
  .subst e;exact⟨h.bc.lt h.ok,h.lo.2⟩
 mono:=fun h hb=>⟨h.ok,h.gA,h.bc,h.hW,h.lo,by have:=h.few;omega⟩
 frame:=fun {b x H H' W S} h s i=>by
  have n: ∀ {B:Nat},(B=A1\/B=a)-> ¬S B:=fun j o=>i _ o ((h.hW _).2 j)
  exact⟨s.ok,by rw[s.keep _ (h.ok.lt h.gA) (n (.inl rfl))];exact h.gA,h.bc.mono h.ok s (n (.inr rfl)),h.hW,h.lo,h.few⟩
 run:=fun m _ hi p=>zIw m hi p
set_option maxRecDepth 100000 in
theorem zIy {At N0 k:Nat}{root:Ptr}{Q:Ptr->Option Nd.Node}{G:AH->(Nat->Prop)->Prop}(r:Rdr At N0 k root Q G)(m:Nat)(hm:700000000<=m){fr to:Str}{H:AH}{F:Nat->Prop}{L:List (Ptr×Nd.Node)}(J:G H F)(d0:N0<=H.next)(hL:Vis Q root fr to L)(hl:L.length<=8192+k)(d1:k<=1000000):
  ∃H' y,f56 (dy (m+1)) (m+1) [.ptr At 0,S fr,S to] H=some (.tuple [.int .i64 (((kE (wD fr to zAs) L 0).2:Nat):Int), .int .i64 ((0:Nat):Int)],H')/\G H' y/\Stp F H H'/\(∀B,y B->F B\/H.next<=B):=by
 have hk:=r.ok J;obtain⟨left,c9⟩: ∃left,left=8192+k:=⟨_,rfl⟩;have ed:=r.dirty (dy (m+1)) (m+1) J;obtain⟨H2,Aw,b2,N,g2,m2,n2⟩:=box hk (.cells [.ptr At 0, .nilMap, .int .i64 ((left:Nat):Int), .int .i64 ((0:Nat):Int)] 215 1 false);obtain⟨H4,f,b4,O,g4,m4,n4⟩:=box N.ok (.cells [.int .i64 ((0:Nat):Int)] 3 1 false);obtain⟨T,e5,x5,u⟩:=(show Box H4 f (.int .i64 ((0:Nat):Int))from⟨_,g4⟩).st O.ok (x:= .int .i64 ((0:Nat):Int)) rfl;obtain⟨H6,X4,c4,U,g6,m6,n6⟩:=box u.ok (.cells [.ptr Aw 0] 207 1 false);obtain⟨H7,X5,c5,C,g7,m7,n7⟩:=box U.ok (.cells [S fr] 9 1 false);obtain⟨H8,X6,c6,v,g8,m8,n8⟩:=box C.ok (.cells [S to] 9 1 false);obtain⟨i,X7,c7,p,g9,m9,n9⟩:=box v.ok (.cells [.func 106 [] []] 212 1 false);have N2:=N.next;have N4:=O.next;have N5:=u.next;have N6:=U.next;have N7:=C.next;have N8:=v.next;have N9:=p.next
 have o:Prs i (i.push (.loop (lpC f))):=(Stp.refl p.ok).push _;have a0:(i.push (.loop (lpC f))).h.get i.next=some (.loop (lpC f)):=AH.push_get_eq _ _
 have V: ∀K:Nat->AH->Rs,XA i (.loop ⟨.ready,none,56,0,[9],[.ptr f 0]⟩) K=K i.next (i.push (.loop (lpC f))):=fun K=>K0 p.ok _ K
 have b1:(i.push (.loop (lpC f))).next=i.next+1:=rfl
 generalize i.push (.loop (lpC f))=H10 at o a0 V b1;obtain⟨A1,b3⟩: ∃A1,A1=i.next:=⟨_,rfl⟩
 rw[<-b3]at a0 V;have d2:=o.next
 have W:Prs T H10:=(((U.trans C).trans v).trans p).trans o;have P5:Prs H T:=(N.trans O).fresh u fun B j=>by omega
 have a2:Prs H H10:=P5.trans W;have b5:T.h.get Aw=some (.cells [.ptr At 0, .nilMap, .int .i64 ((left:Nat):Int), .int .i64 ((0:Nat):Int)] 215 1 false):=by rw[u.keep _ (by omega) (by omega)];exact Prs.get O N.ok g2
 have a5:=Prs.get W u.ok b5;have a6:Box H10 f (.int .i64 ((0:Nat):Int)):=x5.mono u.ok W fun x=>x
 have z: ∀B,F B->B<H.next:=fun B j=>r.lt J B j
 have b6:IC N0 A1 f (500*left) (true,0) H10 (fun B=>B=A1\/B=f):=⟨o.ok,a0,a6,fun B=>Iff.rfl,by omega,by simp only;omega⟩;obtain⟨q,y,d3,bo,left',b7,b8,b9,s,a1,a3,a4,d4⟩:=zAO r (zIx N0 A1 f) m (by omega) (Xw:=X4) (Xf:=X5) (Xt:=X6) (Xp:=X7) (r.prs J a2) b6 a5 (by omega) (fun w=>by have:=z _ w;omega) (fun w=>by rcases w with w | w<;>omega) (fun B j w=>by have:=z _ w;rcases j with w | w<;>omega) hL (by omega) (by omega)
  ⟨_,Prs.get (((C.trans v).trans p).trans o) U.ok g6⟩ ⟨_,Prs.get ((v.trans p).trans o) C.ok g7⟩ ⟨_,Prs.get (p.trans o) v.ok g8⟩ ⟨_,Prs.get o p.ok g9⟩ ⟨by omega,by omega,fun w=>by rcases w with w | w<;>omega,fun w=>by rcases w with w | w<;>omega,fun w=>by have:=z _ w;omega,fun w=>by have:=z _ w;omega⟩
 have d5:=a3.next
 have Y:=s.gA;have Z:=s.bc;simp only at Z;have t:Stp (fun B=>B=A1) q (q.put A1 .dead):=(Stp.refl s.ok).put (s.ok.lt Y) _ (.inr rfl);have a7: ∀K:Option Code->AH->Rs,uO A1 q K=K (lpC f).pending (q.put A1 .dead):=fun K=>by
  simp only[uO,Y,lpC,yQ]
 have c0: ¬y A1:=fun w=>by
  rcases a4 _ w with w | w
  .have:=z _ w;omega
  .omega
 have a8:=Z.mono s.ok t (fun e=>zCT Y Z e.symm);have a9:(q.put A1 .dead).h.get Aw=some (.cells [.ptr At 0, .nilMap, .int .i64 ((left':Nat):Int), .int .i64 ((0:Nat):Int)] b7 1 false):=by rw[t.keep _ (s.ok.lt a1) (by omega)];exact a1
 refine⟨q.put A1 .dead,y, ?_,r.frame b9 t (fun B j=>by subst j;exact⟨by omega,c0⟩), ?_,fun B j=>(a4 B j).imp id fun e=>by omega⟩
 .have c1:rfC [(104,f104 (dy (m+1)) (m+1)),(105,f105 (dy (m+1)) (m+1))] (dy (m+1)) (.func 164 [] [.ptr X4 0, .ptr X5 0, .ptr X6 0, .ptr X7 0]) A1 H10=some (.tuple [],q):=b8;have x1:y6 (.ptr Aw 0)=[.ptr Aw 0]:=rfl;have x2: ∀a,y6 (S a)=[S a]:=fun _=>rfl
  have x3:y6 (.func 106 [] [])=[.func 106 [] []]:=rfl;have x4:y6 (.int .i64 ((0:Nat):Int))=[.int .i64 ((0:Nat):Int)]:=rfl;have hf:f105 (dy (m+1)) (m+1) [.ptr Aw 0,S fr,S to, .func 106 [] []] T=some (.func 164 [] [.ptr X4 0, .ptr X5 0, .ptr X6 0, .ptr X7 0],i):=by
   simp only[f105,eZ,x1,x2,x3,c4,c5,c6,c7]
  have b0:((8192:Nat):Int)+((k:Nat):Int)=((left:Nat):Int):=by omega
  have c2:wY [(0,1),(1,1),(2,1),(3,1)] [.nilPtr, .nilMap, .int .i64 ((0:Nat):Int), .int .i64 ((0:Nat):Int)] [(0, .ptr At 0),(2, .int .i64 ((left:Nat):Int))]=some (.agg [.ptr At 0, .nilMap, .int .i64 ((left:Nat):Int), .int .i64 ((0:Nat):Int)]):=rfl;have c3:f104 (dy (m+1)) (m+1) [.ptr At 0] H=some (.ptr Aw 0,H2):=by
   simp(maxSteps:=999999)(disch:=omega) only[f104,eZ,ed,b0,c2,b2]
  have c8: ¬(((0:Nat):Int)≠((0:Nat):Int)):=by omega
  simp(maxSteps:=999999)(disch:=omega) only[f56,eZ,cq,c3,x4,b4,e5,hf,V,c1,a7,lpC,zDJ,qT a9,c8,a8.ld]
 .refine⟨t.ok,by have:=t.next;omega,fun B j hS=> ?_⟩
  rw[t.keep B (by omega) (by omega),a3.keep B (by omega) (fun w=> ?_),a2.keep B j fun x=>x];rcases w with w | (w | w) | w | w | w
  .exact hS w
  all_goals omega
theorem zIz (m:Nat)(hm:700000000<=m){E:Ev}{H:AH}{At M L Ad:Nat}{W:Nat->Prop}{root:Ptr}{q:PN}{kv:Kvs}{T:List Ptr}(t:bD (.ptr Ad 0) .nilPtr E H At M L W root q kv T)(hL:L<=1000000)(a:kv.length<=1000000000)(fr to:Str):
  ∃H',f56 (dy (m+1)) (m+1) [.ptr At 0,S fr,S to] H=some (.tuple [.int .i64 (((yB fr to kv).length:Nat):Int), .int .i64 ((0:Nat):Int)],H')/\Prs H H':=by
 obtain⟨j,f,h,hl,o,hr⟩:=visD t a (fr:=fr) (to:=to);obtain⟨H',i,e,_,s,_⟩:=zIy (zDo H.next At M Ad E root q) m hm f (Nat.le_refl _) h hl (by omega)
 have:=hr zAs 0;rw[zGf,Nat.zero_add]at this;rw[this]at e;exact⟨H',e,s⟩
end Go.Eng.Sh
end
section
set_option maxRecDepth 20000
namespace Go.Eng
theorem yV.st1 {k e n:Nat}{H:AH}{v:AV}{l:List AV}(h:yV k e H v n l)(q:H.ok)(p:0<k){i j:Nat}(hi:i<n)(F:j<k){x:AV}(s:Eng.isCell x=true):
  ∃A o H',(∀κ (z:Int),z=(i:Int)->hU k v (.int κ z)=some (.ptr A o))/\stN 1 (.ptr A (o+j)) x H=some (qX,H')/\yV k e H' v n (l.set (i*k+j) x)/\Stp (Blk v) H H':=by
 have y:i*k+k<=n*k:=by rw[<-Nat.succ_mul];exact qF _ hi
 have hb:Nat.blt i n=true:=by rw[zR];exact hi
 have t: ∀(A cc:Nat) κ (z:Int),z=(i:Int)->hU k (.slice A 0 n cc) (.int κ z)=some (.ptr A (0+i*k)):=fun A cc κ z u=>by
  subst u;simp only[hU,yK κ (show(0:Int)<=(i:Int)by omega),qA,hb,cond_true,yG]
 rcases h with⟨f,⟨_,rfl⟩ | ⟨A,rfl,a,m⟩⟩ | ⟨f,A,J,g,rfl,a,m,C⟩
 .omega
 .refine⟨A,0+i*k,_,t A 1,bF m p s (by omega), .inl ⟨by simp[f], .inr ⟨A,rfl,a,by rw[AH.put_get,if_pos rfl,Nat.zero_add]⟩⟩,(Stp.refl q).put a _ (.inr (Blk.slice.2 rfl))⟩
 .omega
end Go.Eng
namespace Go.Eng.Sh
open Go.Nd (Ptr sumL leafOf Kvs Srt Str putP delP lookP mayK)
open Go.Bt
theorem zEK (D:Dyn)(n:Nat)(Y:2000<=n){H:AH}(K:H.ok)(s:Str){b:UInt8}(hb:b.toNat<255)(Z:s.length<=1000000)(k:Nat)(W:k<=1000): ∃H',f59 D n [S (s++[b]++List.replicate k 255)] H=some (S (s++[UInt8.ofNat (b.toNat+1)]),H')/\Prs H H':=by
 obtain⟨p,A,b1,t,L,m1,n1⟩:=box K (.cells [.int .u8 ((b.toNat+1:Nat):Int)] 5 1 false);refine⟨p, ?_,t⟩;obtain⟨T,f⟩: ∃T,T=s++[b]++List.replicate k 255:=⟨_,rfl⟩;have x:T.length=s.length+1+k:=by rw[f];simp;omega
 have o: ∀(h:s.length<T.length),T[s.length]=b:=fun h=>by subst f;simp
 have y: ∀i (h:i<T.length),s.length<i->T[i]=255:=fun i h hi=>by
  subst f;rw[List.getElem_append_right (by simp;omega),List.getElem_replicate]
 have z:T.take s.length=s:=by rw[f,List.append_assoc,List.take_left'];rfl
 rw[<-f];have hl:cP (S T)=some (.int .i64 ((s.length+1+k - 0:Nat):Int)):=by rw[xI,x,Nat.sub_zero]
 have N:yF n (XH D n) [S T, .int .i64 ((s.length+1+k - 0:Nat):Int)] H=some (.exit 0 [S T, .int .i64 ((s.length+1:Nat):Int)],H):=by
  refine kH (fun i=>[S T, .int .i64 ((s.length+1+k - i:Nat):Int)]) k (fun i hi=> ?_) (fun q=> ?_) n (by omega)
  .have m:((0:Nat):Int)< ((s.length+1+k - i:Nat):Int):=by omega
   have a:((s.length+1+k - i:Nat):Int) - ((1:Nat):Int)=((s.length+1+k - (i+1):Nat):Int):=by omega
   have j:uW (S T) (.int .i64 ((s.length+1+k - (i+1):Nat):Int))=some (.int .u8 ((255:Nat):Int)):=by
    rw[vK T .i64 (show s.length+1+k - (i+1)<T.length by omega),y _ _ (by omega)];rfl
   simp(maxSteps:=999999)(disch:=omega) only[XH,eZ,m,a,j]
  .rw[show s.length+1+k - k=s.length+1 by omega];have m:((0:Nat):Int)< ((s.length+1:Nat):Int):=by omega
   have a:((s.length+1:Nat):Int) - ((1:Nat):Int)=((s.length:Nat):Int):=by omega
   have j:uW (S T) (.int .i64 ((s.length:Nat):Int))=some (.int .u8 ((b.toNat:Nat):Int)):=by
    rw[vK T .i64 (show s.length<T.length by omega),o]
   have C: ¬((b.toNat:Nat):Int)=((255:Nat):Int):=by omega
   exact y7 (by simp(maxSteps:=999999)(disch:=omega) only[XH,eZ,m,a,j,C])
 have O: ¬((s.length+1:Nat):Int)=((0:Nat):Int):=by omega
 have a:((s.length+1:Nat):Int) - ((1:Nat):Int)=((s.length:Nat):Int):=by omega
 have j:uW (S T) (.int .i64 ((s.length:Nat):Int))=some (.int .u8 ((b.toNat:Nat):Int)):=by
  rw[vK T .i64 (show s.length<T.length by omega),o]
 have u:YI (S T) none (some (.int .i64 ((s.length:Nat):Int)))=some (S s):=by
  rw[UN _ _ (by omega) (by simp;omega)];simp[z]
 have v:((b.toNat:Nat):Int)+((1:Nat):Int)=((b.toNat+1:Nat):Int):=by omega
 have U:IntKind.wrap .u8 ((b.toNat+1:Nat):Int)=((b.toNat+1:Nat):Int):=by rw[wrap_u8];omega
 have V:d7 5 1 1 [.int .u8 ((0:Nat):Int)] [(0, .int .u8 ((b.toNat+1:Nat):Int))]=some (.cells [.int .u8 ((b.toNat+1:Nat):Int)] 5 1 false,fun A=> .slice A 0 1 2):=rfl;have F:zBx (.slice A 0 1 2) p=some (S [UInt8.ofNat (b.toNat+1)]):=cv1 t.ok (by rw[zAT (by omega)];exact L);have J:bO .add (S s) (S [UInt8.ofNat (b.toNat+1)])=some (S (s++[UInt8.ofNat (b.toNat+1)])):=by rw[zEh _ _ (by simp;omega)]
 simp(maxSteps:=999999)(disch:=omega) only[f59,eZ,hl,N,zHC,O,a,u,j,v,U,V,b1,F,J]
theorem zAJ (D:Dyn)(n:Nat){H:AH}(hk:H.ok){v:AV}{l:Kvs}(h:zAe H v l)(hl:l.length<=1000000)(hn:l.length<n)(fr to:Str):
  ∃H' T,f57 D n [v,S fr,S to] H=some (T,H')/\Prs H H'/\PrG H' T (yB fr to l):=by
 have j:lnSl v=some (.int .i64 ((l.length:Nat):Int)):=Rw.lnSl h;have z:(AV.str 0 0)=S []:=rfl;have lp:=wI (b:=KR D n) l.length (fun i C H'=> ∃w,C=[v,S fr,S to,w, .int .i64 ((i:Nat):Int)]/\Prs H H'/\PrG H' w ((l.take i).filter (inP fr to))/\ ∀B,Blk w B->H.next<=B) (fun i C H' hi ⟨w,hus,P,g,f⟩=>by
  subst hus;have h':zAe H' v l:=Rw.stp h P fun _ _ x=>x
  obtain⟨A,o,t,U,i3,_⟩:=h'.at hi;have p:Eng.ld1 (.ptr A (o+0)) H'=some (S l[i].1):=i3;have s:((i:Nat):Int)< ((l.length:Nat):Int):=by omega
  have hi1:((i:Nat):Int)+((1:Nat):Int)=((i+1:Nat):Int):=by omega
  have L:l.take (i+1)=l.take i++[l[i]]:=zU hi
  cases a:inP fr to l[i]with
  | true=>
   have u:(l.take (i+1)).filter (inP fr to)=(l.take i).filter (inP fr to)++[l[i]]:=by rw[L,List.filter_append,List.filter_cons_of_pos a];rfl
   have Y:=List.length_filter_le (inP fr to) (l.take i);rw[zQ]at Y;obtain⟨H1,A2,b1,y,g1,m1,n1⟩:=box P.ok (.cells (prV l[i]) 48 2 false);have Z:srcOf 2 (.slice A2 0 1 2) H1=some (1,prV l[i]):=by simp only[srcOf,g1];rfl
   obtain⟨w',H2,V,a1,s2,f2⟩:=yV.app (bytes:=32) (m:=1) y.ok (by decide) (yV.mono g.1 y fun _ _ x=>x) Z rfl rfl (by omega) (by decide);have N:=P.next;have N1:=y.next
   have O:d7 48 2 1 [S [],S []] [(0, .agg (prV l[i]))]=some (.cells (prV l[i]) 48 2 false,fun A=> .slice A 0 1 2):=rfl;simp only[inP,yR,zC,Bool.not_eq_true',Bool.or_eq_true,List.isEmpty_iff]at a;obtain⟨c1,c2⟩:=a;refine⟨_,H2, ?_,w',rfl,(P.trans y).fresh s2 f,⟨?_,fun e=> ?_⟩,fun B F=> ?_⟩
   .by_cases c3:to=[]
    .have a2:(to=[])=True:=eq_true c3;simp(maxSteps:=999999)(disch:=omega) only[KR,BN,eZ,j,s,t,p,xW,c1,Bool.not_false,z,u0,a2,U,O,b1,V,hi1]
    .have J:ltS l[i].1 to=true:=by rcases c2 with e | e;exact absurd e c3;exact e
     simp(maxSteps:=999999)(disch:=omega) only[KR,BN,eZ,j,s,t,p,xW,c1,Bool.not_false,z,u0,c3,uZ,J,U,O,b1,V,hi1]
   .rw[u,zL,qI];have e1:[l[i]].flatMap prV=prV l[i]:=by simp
    rw[e1];exact a1
   .rw[u]at e;simp at e
   .rcases f2 B F with e | e
    .exact f B e
    .omega
  | false=>
   have u:(l.take (i+1)).filter (inP fr to)=(l.take i).filter (inP fr to):=by rw[L,List.filter_append,List.filter_cons_of_neg (by rw[a];decide)];simp
   refine⟨_,H', ?_,w,rfl,P,by rw[u];exact g,f⟩
   cases c1:ltS l[i].1 fr with
   | true=>
    simp(maxSteps:=999999)(disch:=omega) only[KR,BN,eZ,j,s,t,p,xW,c1,Bool.not_true,hi1]
   | false=>
    simp only[inP,yR,c1,Bool.not_false,Bool.true_and,Bool.or_eq_false_iff]at a;obtain⟨c2,J⟩:=a;have c3: ¬to=[]:=fun e=>by rw[e]at c2;cases c2
    simp(maxSteps:=999999)(disch:=omega) only[KR,BN,eZ,j,s,t,p,xW,c1,Bool.not_false,z,u0,c3,uZ,J,hi1]) n _ H ⟨.nilSlice,rfl,Stp.refl hk,⟨.inl (Own.nil ..),fun _=>rfl⟩,fun B F=>(Blk.nil.1 F).elim⟩ (by omega)
 obtain⟨q,C,K,e5,w,rfl,P5,W,f5⟩:=lp;rw[qJ]at W;refine⟨K,w, ?_,P5,W⟩;have a0:yF (q+1) (KR D n) [v,S fr,S to,w, .int .i64 ((l.length:Nat):Int)] K=some (.exit 0 [w],K):=y7 (by simp only[KR,eZ,j,qB]);simp(maxSteps:=999999)(disch:=omega) only[f57,eZ,e5,a0,zKs]
theorem zCc (D:Dyn)(n:Nat)(o:2000<=n){H:AH}(j:H.ok)(s:Str)(t:s.length<=1000): ∃H',f59 D n [S s] H=some (S (uY s),H')/\Prs H H':=by
 rcases fU s with⟨h,e⟩ | ⟨p,b,k,h,hb,e⟩
 .rw[e];obtain⟨k,f⟩: ∃k,k=s.length:=⟨_,rfl⟩;rw[<-f]at h t;have hl:cP (S s)=some (.int .i64 ((k - 0:Nat):Int)):=by rw[xI,f,Nat.sub_zero]
  refine⟨H, ?_,Stp.refl j⟩;have u:yF n (XH D n) [S s, .int .i64 ((k - 0:Nat):Int)] H=some (.exit 0 [S s, .int .i64 ((0:Nat):Int)],H):=by
   refine kH (fun i=>[S s, .int .i64 ((k - i:Nat):Int)]) k (fun i hi=> ?_) (fun q=> ?_) n (by omega)
   .have a:((0:Nat):Int)< ((k - i:Nat):Int):=by omega
    have m:((k - i:Nat):Int) - ((1:Nat):Int)=((k - (i+1):Nat):Int):=by omega
    have v:uW (S s) (.int .i64 ((k - (i+1):Nat):Int))=some (.int .u8 ((255:Nat):Int)):=by
     rw[vK s .i64 (show k - (i+1)<s.length by omega)];have:s[k - (i+1)]'(by omega)=255:=by
      have:=List.getElem_of_eq h (show k - (i+1)<s.length by omega);rw[this,List.getElem_replicate]
     rw[this];rfl
    simp(maxSteps:=999999)(disch:=omega) only[XH,eZ,a,m,v]
   .rw[Nat.sub_self];have a: ¬((0:Nat):Int)< ((0:Nat):Int):=by omega
    exact y7 (by simp(maxSteps:=999999)(disch:=omega) only[XH,eZ,a])
  have x:(AV.str 0 0)=S []:=rfl;simp(maxSteps:=999999)(disch:=omega) only[f59,eZ,hl,u,zHC,x]
 .rw[e,h];have hl:s.length=p.length+1+k:=by rw[h];simp;omega
  exact zEK D n o j p hb (by omega) k (by omega)
def zJf (z:Int)(l:Kvs):Kvs:=if z<0 then[]else l.take z.toNat
def YJ (z:Int)(l:Kvs):Bool:=decide (0<=z)&&decide (z.toNat<l.length)
def zM7 (z:Int):Nat:=if z<0 then 1 else 0
theorem zGh (D:Dyn)(n:Nat){H:AH}(s:H.ok){v:AV}{l:Kvs}(h:zAe H v l)(hl:l.length<=1000000)(C:l.length<n)(fr to:Str)(z:Int):
  ∃H' t,f54 D n [v,S fr,S to, .int .i64 z] H=some (.tuple [t, .bool (YJ z (yB fr to l)), .int .i64 ((zM7 z:Nat):Int)],H')/\Prs H H'/\zAe H' t (zJf z (yB fr to l)):=by
 by_cases f:z<0
 .have a:z< ((0:Nat):Int):=by omega
  refine⟨H, .nilSlice, ?_,Stp.refl s,by rw[zJf,if_pos f];exact Rw.nil _ _⟩;have F:YJ z (yB fr to l)=false:=by simp[YJ];omega
  rw[F,zM7,if_pos f];simp(maxSteps:=999999)(disch:=omega) only[f54,eZ,a]
 .have a: ¬z< ((0:Nat):Int):=by omega
  obtain⟨k,rfl⟩: ∃k:Nat,z=((k:Nat):Int):=⟨z.toNat,by omega⟩;obtain⟨m,u,x,y,o⟩:=zAJ D n s h hl C fr to;have p:lnSl u=some (.int .i64 (((yB fr to l).length:Nat):Int)):=Rw.lnSl o.row;have hm:YJ ((k:Nat):Int) (yB fr to l)=decide (k< (yB fr to l).length):=by
   simp[YJ]
  rw[hm,zJf,zM7,if_neg f,if_neg f,qA];by_cases hb:k< (yB fr to l).length
  .have j:((k:Nat):Int)< (((yB fr to l).length:Nat):Int):=by omega
   obtain⟨r,J,q⟩:=GrP.hi o.1 (i:=k) (by omega);rw[QG]at q;refine⟨m,r, ?_,y, ?_⟩
   .rw[decide_eq_true hb];simp(maxSteps:=999999)(disch:=omega) only[f54,eZ,a,x,p,j,J]
   .show Rw 2 m r ((yB fr to l).take k).length _;rw[zQ,Nat.min_eq_left (by omega)];exact q
  .have j: ¬((k:Nat):Int)< (((yB fr to l).length:Nat):Int):=by omega
   refine⟨m,u, ?_,y,by rw[zP (by omega)];exact o.row⟩;rw[decide_eq_false hb];simp(maxSteps:=999999)(disch:=omega) only[f54,eZ,a,x,p,j]
theorem zGr (m:Nat)(hm:700000000<=m){H0 H:AH}{Gd i:Nat}{kv:Kvs}(g:GS H0 Gd i kv H)(hi:i<=60)(fr to:Str)(z:Int): ∃At H' v,Eng.ld1 (.ptr Gd 0) H=some (.ptr At 0)/\f53 (dy (m+1)) (m+1) [.ptr At 0,S fr,S to, .int .i64 z] H=some (.tuple [v, .bool (YJ z (yB fr to kv)), .int .i64 ((zM7 z:Nat):Int)],H')/\Prs H H'/\yV 2 48 H' v (zJf z (yB fr to kv)).length ((zJf z (yB fr to kv)).flatMap prV)/\ ∀B,Blk v B->H.next<=B:=by
 by_cases a:z<0
 .obtain⟨At,Ad,E,M,L,W,root,q,T,K,h,x1,s,_⟩:=g.at
  obtain⟨j,t,b1,u,x,N,O⟩:=box s.d.okH (.cells [.int .i64 z] 3 1 false);have o:z< ((0:Nat):Int):=by omega
  have y:YJ z (yB fr to kv)=false:=by simp[YJ];omega
  have x4:y6 (.int .i64 z)=[.int .i64 z]:=rfl;have C:ld1 (.ptr t 0) j=some (.int .i64 z):=by rw[qT x];rfl
  refine⟨At,j, .nilSlice,h, ?_,u,by rw[zJf,if_pos a];exact .inl (Own.nil ..),fun B F=>(Blk.nil.1 F).elim⟩;rw[y,zM7,if_pos a];simp(maxSteps:=999999)(disch:=omega) only[f53,eZ,cq,x4,b1,C,o]
 .obtain⟨k,rfl⟩: ∃k:Nat,z=((k:Nat):Int):=⟨z.toNat,by omega⟩;obtain⟨At,H',v,h,e,p,J,f,_⟩:=zGs m hm g hi fr to (most:=k);have hm:YJ ((k:Nat):Int) (yB fr to kv)=decide (k< (yB fr to kv).length):=by
   simp[YJ]
  refine⟨At,H',v,h, ?_,p,by rw[zJf,if_neg a,qA];exact J,f⟩;rw[hm,zM7,if_neg a];exact e
end Go.Eng.Sh
end
section
set_option maxRecDepth 20000
namespace Go.Eng.Sh
open Go.Nd (Ptr sumL leafOf Kvs Srt mayK putP delP lookP)
open Go.Bt Go.Bk
theorem zJC (D:Dyn)(n:Nat){H:AH}(z:H.ok){v:AV}{k:Nat}{c:List AV}(h:yV 2 48 H v k c)(V:k<n)(U:k<=1000000000)(x1 x2 a x4 f:AV):
  ∃H',yF n (BL D n) [x1,x2,a,x4,f,v, .int .i64 ((0:Nat):Int)] H=some (.exit 2 [x1,x2,a,x4,f],H')/\Stp (Blk v) H H':=by
 have p:lnSl v=some (.int .i64 ((k:Nat):Int)):=Rw.lnSl h.row;have C:=wI (b:=BL D n) k (fun i m H'=>m=[x1,x2,a,x4,f,v, .int .i64 ((i:Nat):Int)]/\Stp (Blk v) H H'/\ ∃c,yV 2 48 H' v k c) (fun i m H' hi ⟨t,s,c',g⟩=>by
  subst t;have u:((i:Nat):Int)< ((k:Nat):Int):=by omega
  have hi1:((i:Nat):Int)+((1:Nat):Int)=((i+1:Nat):Int):=by omega
  obtain⟨A,o,F,J,K,L,N⟩:=g.st1 s.ok (by decide) hi (j:=0) (by omega) (x:= .str 6 128008974200947) rfl;have y:=J .i64 _ rfl;refine⟨_,F, ?_,rfl,s.trans N,_,L⟩;simp(maxSteps:=999999)(disch:=omega) only[BL,eZ,p,u,y,K,hi1]) n _ H ⟨rfl,Stp.refl z,c,h⟩ (by omega)
 obtain⟨q,m,O,S,rfl,T,_⟩:=C;refine⟨O, ?_,T⟩;rw[S];exact y7 (by simp only[BL,eZ,p,qB])
theorem QW (m:Nat)(hm:800000000<=m){H0 H:AH}{Gd i:Nat}{kv:Kvs}(g:GS H0 Gd i kv H)(hi:i<=60)(x1 x2:Str)(z:Int)(j:Nat)(hj:j<2):
  ∃H',zCv (dy (m+3)) (m+3) [S x1,S x2, .int .i64 z, .ptr Gd 0, .int .i64 ((j:Nat):Int)] H=some (.norm [S x1,S x2, .int .i64 z, .ptr Gd 0, .int .i64 ((j+1:Nat):Int)],H')/\GS H0 Gd i kv H':=by
 obtain⟨At,H1,u,y,C,f,o,F⟩:=zGr (m+2) (by omega) g hi x1 x2 z;have J:=g.prs f;obtain⟨_,_,_,_,_,_,_,_,_,lv,_,K,L,_,gl,hs,a0,p0⟩:=J.at
 obtain⟨N,O,T,a,U⟩:=zGh (dy (m+3)) (m+3) L.d.okH gl.row (by omega) (by omega) x1 x2 z;have a1:(zJf z (yB x1 x2 kv)).length<=kv.length:=by
  have:=zFg x1 x2 kv;rw[zJf];split
  .simp
  .rw[zQ];omega
 have p:=zEG (dy (m+3)) (m+3) (H:=N) (v:=u) (w:=O) (l:=zJf z (yB x1 x2 kv)) (Rw.prs o.row a) U (by omega) (by omega);obtain⟨V,W,Y⟩:=zJC (dy (m+3)) (m+3) a.ok (yV.mono o a fun _ _ x=>x) (by omega) (by omega) (S x1) (S x2) (.int .i64 z) (.ptr Gd 0) (.int .i64 ((j:Nat):Int));have q:((j:Nat):Int)< ((2:Nat):Int):=by omega
 have s:((j:Nat):Int)+((1:Nat):Int)=((j+1:Nat):Int):=by omega
 have t:(!(YJ z (yB x1 x2 kv)==YJ z (yB x1 x2 kv)))=false:=by simp
 have Z:decide (((zM7 z:Nat):Int)≠((zM7 z:Nat):Int))=false:=decide_eq_false fun h=>h rfl
 refine⟨V, ?_,g.prs ((f.trans a).fresh Y F)⟩;simp(maxSteps:=999999)(disch:=omega) only[zCv,eZ,q,y,C,K,T,qV,nth,WS,t,Z,p,decide_true,decide_false,Bool.or_false,Bool.false_or,Bool.not_true,eq_self,Bool.false_eq_true,if_true,if_false,W,zHu,s]
theorem walkRanges_walk (m:Nat)(hm:800000000<=m){H:AH}(j:H.ok){v:AV}{l:List Sw}(o:SwR H v l)(a0: ∀s∈l,s.kd<256){x1 x2:Str}(z:Int):
  ∃H',f8z (dy (m+3)) (m+3) [v,S x1,S x2, .int .i64 z] H=some (.bool true,H')/\Prs H H':=by
 have i: ∀H:AH,z51 (dy (m+3)) (m+3) [] H=some (.bool true,H):=fun _=>rfl
 obtain⟨b,p,hb⟩:=zKb (dy (m+3)) (m+3) (by omega) o;by_cases t:b=false/\x1.length<=1000/\x2.length<=1000
 .obtain⟨rfl,u,h2⟩:=t;have f: ¬((1000:Nat):Int)< ((x1.length:Nat):Int):=by omega
  have h: ¬((1000:Nat):Int)< ((x2.length:Nat):Int):=by omega
  have hl:=hb rfl;obtain⟨O,Gd,U,V⟩:=zJY (m+1) (m+3) (by omega) (by omega) j o hl;obtain⟨H3,Y,Z⟩:=QW m hm V hl x1 x2 z 0 (by omega);obtain⟨H4,e4,g4⟩:=QW m hm Z hl x1 x2 z 1 (by omega);obtain⟨At,Ad,E,M,L,W,root,q,T,lv,y0,y1,x,hL,gl,hs,a1,p0⟩:=g4.at
  obtain⟨H5,e5,a⟩:=zIz (m+2) (by omega) x (by omega) (by omega) x1 x2;have J:=zDF x.d.okH a y1;obtain⟨H6,w,e6,y,g6⟩:=zAJ (dy (m+3)) (m+3) a.ok (gl.prs a).row (by omega) (by omega) x1 x2;have K:lnSl w=some (.int .i64 (((yB x1 x2 (aQ l)).length:Nat):Int)):=Rw.lnSl g6.row;obtain⟨H7,e7,C⟩:=zIP (dy (m+3)) (m+3) (by omega) y.ok x1 u;obtain⟨H8,e8,p8⟩:=zCc (dy (m+3)) (m+3) (by omega) C.ok x1 u;have N:bO .eql (S (uY x1)) (S (uY x1))=some (.bool true):=by rw[u0];simp
  have n2: ¬((2:Nat):Int)< ((2:Nat):Int):=by omega
  obtain⟨k,a2⟩: ∃k,m+3=k+3:=⟨m,rfl⟩;have F:yF (m+3) (zCv (dy (m+3)) (m+3)) [S x1,S x2, .int .i64 z, .ptr Gd 0, .int .i64 ((0:Nat):Int)] O=some (.exit 0 [S x1,S x2, .ptr Gd 0],H4):=by
   refine(jF Y).trans ((jF e4).trans (y7 ?_));simp(maxSteps:=999999)(disch:=omega) only[zCv,eZ,n2,show((1+1:Nat):Int)=((2:Nat):Int)from rfl]
  refine⟨H8, ?_,(((p0.trans a).trans y).trans C).trans p8⟩;have t1:decide (((0:Nat):Int)=((0:Nat):Int))=true:=rfl;have t2:decide ((((yB x1 x2 (aQ l)).length:Nat):Int)=(((yB x1 x2 (aQ l)).length:Nat):Int))=true:=decide_eq_true rfl;simp(maxSteps:=999999)(disch:=omega) only[f8z,eZ,p,f,h,decide_true,decide_false,Bool.or_false,Bool.false_or,U,qV,nth,Bool.not_true,F,zNB,y0,e5,t1,t2,J,e6,K,eq_self,if_true,Bool.true_and,e7,e8,N,i]
 .refine⟨H, ?_,Stp.refl j⟩;by_cases f:((1000:Nat):Int)< ((x1.length:Nat):Int)<;>by_cases h:((1000:Nat):Int)< ((x2.length:Nat):Int)<;>cases b<;>first
   | exact absurd ⟨rfl,by omega,by omega⟩ t
   | simp(maxSteps:=999999)(disch:=omega) only[f8z,eZ,p,i,f,h,decide_true,decide_false,Bool.false_or,Bool.true_or,Bool.or_false,Bool.or_true,Bool.not_true,Bool.not_false]
end Go.Eng.Sh
end
section
namespace Go.Proofs.YtaaflpnhdkoaeaaGreat.steps14
open Go.ChangeShapes Go.WideShapes Go.ChangeAt Go.RowKit
theorem zEe: Tryz.prog.cellsOf 113=3:=by kernel_rfl
theorem zKS: Tryz.prog.cellsOf 5=1:=by kernel_rfl
theorem zEf: Tryz.prog.cellsOf 9=1:=by kernel_rfl
abbrev Raw:=Int×ByteArray×ByteArray
def zEz (s:Raw):List Value:=[.int .u8 s.1, .string s.2.1, .string s.2.2]
def zF0 (s:Raw):Prop:=0<=s.1/\s.1<256
open Go.Eng.Sh (Sw swV SwR)
def zMz (s:Raw):Sw:=⟨s.1.toNat,s.2.1.data.toList,s.2.2.data.toList⟩
theorem zOU (N:Nat){s:Raw}(h:zF0 s):swV (zMz s)=(zEz s).map (Go.Eng.cellAV N):=by
 have a:((s.1.toNat:Nat):Int)=s.1:=Int.toNat_of_nonneg h.1;simp only[zEz,List.map_cons,List.map_nil,Go.Eng.cellAV_string,swV,zMz,a];rfl
set_option maxRecDepth 100000 in
theorem zMD {H:Type}{enc:TypeId×Value->H}{w:World}{base:Nat}{a:Bool}{j:Nat}{cs:List Value}{x:DataW H×List MemPlace}(h:DataW.trod enc Tryz.prog w base (fun _=>true) a j 113 cs=some x): ∃s:Raw,cs=zEz s/\zF0 s:=by
 obtain⟨xs,n,_,_,hl,m,f⟩:=DataW.trod_struct Tryz.underlying113 h;rw[zEe]at hl
 match cs,hl with
 | [c0,c1,c2],_=>
  match xs,m with
  | [y0,y1,y2],_=>
   have o:DataW.trod enc Tryz.prog w base (fun _=>true) a n 5 [c0]=some y0:=by
    have this:DataW.trod enc Tryz.prog w base (fun _=>true) a n 5 (List.take (Tryz.prog.cellsOf 5) (List.drop 0 [c0,c1,c2]))=some y0:=f 0 _ rfl;rw[zKS]at this;exact this
   have p:DataW.trod enc Tryz.prog w base (fun _=>true) a n 9 [c1]=some y1:=by
    have this:DataW.trod enc Tryz.prog w base (fun _=>true) a n 9 (List.take (Tryz.prog.cellsOf 9) (List.drop 1 [c0,c1,c2]))=some y1:=f 1 _ rfl;rw[zEf]at this;exact this
   have q:DataW.trod enc Tryz.prog w base (fun _=>true) a n 9 [c2]=some y2:=by
    have this:DataW.trod enc Tryz.prog w base (fun _=>true) a n 9 (List.take (Tryz.prog.cellsOf 9) (List.drop 2 [c0,c1,c2]))=some y2:=f 2 _ rfl;rw[zEf]at this;exact this
   clear f h;obtain⟨t,u,_,i⟩:=DataW.trod_int Tryz.underlying5 o;obtain⟨v,y,_⟩:=DataW.trod_string Tryz.underlying9 p;obtain⟨z,C,_⟩:=DataW.trod_string Tryz.underlying9 q;obtain rfl:=(List.cons.inj u).1;obtain rfl:=(List.cons.inj y).1;obtain rfl:=(List.cons.inj C).1;refine⟨(t,v,z),rfl, ?_⟩;simp only[Lit.wf,IntKind.min,IntKind.max,IntKind.signed,IntKind.bits,zC,zJ]at i;simp only[zF0];simp at i;omega
instance:Inhabited Raw:=⟨(0, .empty, .empty)⟩
set_option maxRecDepth 100000 in
theorem steps_in {H:Type}{enc:TypeId×Value->H}{w:World}{base:Nat}{m:Bool}{v:Value}{d:DataW H}{o:List MemPlace}(p: ∃a len cap,v= .slice a len cap)(h:DataW.Trod enc Tryz.prog w base (fun _=>true) m 96 v d o):
  ∃l:List Sw,SwR (Go.Eng.H0 w) (Go.Eng.argAV w.heap.size v) l/\ ∀s∈l,s.kd<256:=by
 obtain⟨z,u,x,rfl⟩:=p;obtain⟨y,q⟩:=h;obtain⟨l,t,i⟩:=Go.Eng.srows_arg (α:=Raw) (k:=3) (by decide) (vals:=zEz) (fun _=>rfl) (good:=zF0) Tryz.underlying96 zEe (fun h=>zMD h) q;refine⟨l.map zMz, ?_,fun s f=> ?_⟩
 .have e:(l.map zMz).flatMap swV=l.flatMap fun s=>(zEz s).map (Go.Eng.cellAV w.heap.size):=by
   have: ∀l:List Raw,(∀s∈l,zF0 s)->(l.map zMz).flatMap swV=l.flatMap fun s=>(zEz s).map (Go.Eng.cellAV w.heap.size):=by
    intro l
    induction l with
    | nil=>intro _;rfl
    | cons s l ih=>
     intro j;rw[List.map_cons,zW,zW,zOU w.heap.size (j s (zF ..)),ih fun s f=>j s (zE _ f)]
   exact this l i
  show Go.Eng.Rw 3 _ _ (l.map zMz).length _;rw[e,qM];exact t
 .obtain⟨r,hr,rfl⟩:=List.mem_map.1 f;have:=i r hr;simp only[zMz];simp only[zF0]at this;omega
end Go.Proofs.YtaaflpnhdkoaeaaGreat.steps14
end
section
namespace Go.Proofs.YtaaflpnhdkoaeaaGreat.walkRanges
open Go.ChangeShapes Go.WideShapes Go.ChangeAt Go.RowKit
open Go.ChangeMaps (open_string shut_string)
theorem own:ownKnob Tryz.prog.godebug=none:=by kernel_rfl
theorem laid:laidOutB Tryz.prog=true:=by kernel_rfl
set_option maxRecDepth 100000 in
theorem contract (H:Type)(enc:TypeId×Value->H)(W:World)(base:Nat)(args:Array Value)(y gs:List (DataW H))(U:List MemPlace)
  (a: ∀(j:Nat) t v, Tryz.f8.params[j]? =some t->args[j]? =some v->Value.okWide Tryz.prog W .any base t v)
  (C:DataW.Whole enc Tryz.prog Tryz.f8.params.toList Rows.walkRangesSpec.vars false W args.toList y gs U):
  Calls Tryz.prog 8 args W fun e F=> ∃v,e= .returned v/\Rows.walkRangesSpec.post enc Tryz.prog Tryz.f8 false true false false W args v F:=by
 have i:=C;obtain⟨p,q,u,hV,rfl,a4,a5⟩:=C;have f:DataW.TrodAll enc Tryz.prog W 0 (fun _=>true) true Tryz.f8.params.toList args.toList y p:=u;rw[Tryz.params8]at f a;obtain⟨o,a6,d0,a7,J,q0,a3,rfl,rfl,K,r0⟩:=trodAll_cons f;obtain⟨L,a8,d1,a9,p1,q1,rfl,rfl,rfl,h1,r1⟩:=trodAll_cons r0;obtain⟨v2,b0,d2,b1,p2,q2,rfl,rfl,rfl,h2,r2⟩:=trodAll_cons r1;obtain⟨N,b2,d3,b3,p3,q3,rfl,rfl,rfl,h3,r3⟩:=trodAll_cons r2;obtain⟨rfl,rfl,rfl⟩:=trodAll_nil r3;obtain rfl:args= #[o,L,v2,N]:=by cases args;simp_all
 obtain⟨rfl,rfl⟩:=trodVars_none hV;clear u;have Y: ∀x∈J,x.block<W.heap.size:=fun x hx=>i.lt x (by simp[hx])
 obtain⟨l,hN,a0⟩:=steps14.steps_in (okWide_slice Tryz.underlying96 (a 0 96 o rfl rfl)) K;obtain⟨O,rfl,rfl,rfl,a1⟩:=open_string Tryz.underlying9 (a 1 9 L rfl rfl) h1;obtain⟨T,rfl,rfl,rfl,a2⟩:=open_string Tryz.underlying9 (a 2 9 v2 rfl rfl) h2;obtain⟨z,rfl,rfl,rfl,hz⟩:=open_int Tryz.underlying3 (a 3 3 N rfl rfl) h3;obtain⟨m,hm⟩: ∃m:Nat,800000000<=m:=⟨_,Nat.le_refl _⟩;obtain⟨H',Z,hP⟩:=Go.Eng.Sh.walkRanges_walk m hm (Go.Eng.H0_ok W) hN a0 (x1:=O.data.toList) (x2:=T.data.toList) z;have V:=Go.Eng.calls_param (Go.Eng.Sh.f8z_ok (Go.Eng.Sh.dy_ok (m+3)) (m+3)) W (args:= #[o, .string O, .string T, .int .i64 z]) (H':=H') (by
  have e2: ∀s:ByteArray,Go.Eng.argAV W.heap.size (.string s)=Go.Eng.S s.data.toList:=fun s=>Go.Eng.cellAV_string W.heap.size s
  simp only[List.map_cons,List.map_nil,e2];exact Z) (fun A f=>hP.keep A f (fun x=>x))
 refine V.mono fun e F ⟨he,hb⟩=> ?_
 subst he;simp only[List.append_nil]at i;refine⟨_,rfl,_,_,_,[],J++([]++([]++([]++[]))),[],i, ?_, ?_,rfl,hb.frame _,fun h=>by cases h⟩
 .exact trodAll_cons_mk (shut_bool Tryz.underlying4 _) trodAll_mk0
 .exact trodAll_cons_mk (Below.trod laid (by kernel_rfl) (of_decide_eq_true (by kernel_rfl)) K hb Y) (trodAll_cons_mk (shut_string Tryz.underlying9 a1) (trodAll_cons_mk (shut_string Tryz.underlying9 a2) (trodAll_cons_mk (shut_int Tryz.underlying3 hz) trodAll_mk0)))
set_option maxRecDepth 100000 in
theorem lifted (a:Os)(f:a.Started)(H:Type)(enc:TypeId×Value->H):
  ReturnsInHanded {} Tryz.checked a 8 .any (Rows.walkRangesSpec.pre6 enc Tryz.prog Tryz.f8 Rows.walkRangesRow.domain false) (Rows.walkRangesSpec.post enc Tryz.prog Tryz.f8 false true false false):=by
 refine returnsInHanded_of_change (C:= Tryz.checked) own f (by kernel_rfl) Tryz.func8
  (ChangeSpec.witness6 (enc:=enc) (C:= Tryz.checked) false ⟨#[], #[.slice none 0 0, .string .empty, .string .empty, .int .i64 0],[]⟩ 8 (by kernel_rfl) (by kernel_rfl) (by kernel_rfl) (by kernel_rfl)) ?_
 intro W base args j m h i o _ _;exact contract H enc W base args j m h i o
theorem holds:Rows.WalkRangesSaid:=
 OpenClaim.holds_of_wide 8 Tryz.f8 rfl rfl rfl rfl rfl rfl rfl ⟨rfl,rfl,rfl,rfl,rfl⟩ rfl rfl rfl rfl rfl (by kernel_rfl) Tryz.func8 (by kernel_rfl)
  (of_decide_eq_true (by kernel_rfl)) (by unfold Func.isWrapper;first | (rw[if_pos (by decide+kernel)];kernel_rfl) | (rw[if_neg (by decide+kernel)];exact⟨rfl,rfl⟩))
  (fun f a H enc _=>lifted f a H enc)
end Go.Proofs.YtaaflpnhdkoaeaaGreat.walkRanges
namespace Go.Proofs.YtaaflpnhdkoaeaaGreat
theorem walkRanges_holds:Rows.WalkRangesSaid:=walkRanges.holds
end Go.Proofs.YtaaflpnhdkoaeaaGreat
end

