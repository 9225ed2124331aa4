/- A checked evaluator for the program, and what it tells, part 8: no condition. -/
import Derived.Test.YtaaflpnhdkoaeaaGreatO7
import Derived.Test.YtaaflpnhdkoaeaaGreatRows
import Derived.ProofKit
import Derived.OpenShut
import Derived.Carry
set_option linter.all false
set_option linter.unusedVariables false
set_option linter.unusedSimpArgs false
set_option maxHeartbeats 8000000
set_option maxRecDepth 20000
section
set_option maxRecDepth 20000
namespace Go.Eng.Sh
open Go.Nd (Ptr sumL leafOf Kvs Srt mayK putP delP lookP)
open Go.Bt Go.Bk
structure Sw where
 kd:Nat
 k:Str
 v:Str
def swV (a:Sw):List AV:=[.int .u8 ((a.kd:Nat):Int),S a.k,S a.v]
def SwR (H:AH)(v:AV)(l:List Sw):Prop:=Rw 3 H v l.length (l.flatMap swV)
theorem zBg: ∀(l:List Sw) (i:Nat) (h:i<l.length),((l.flatMap swV).drop (i*3)).take 3=swV l[i]
 | p::l,0,_=>by rw[Nat.zero_mul,List.drop_zero,zW,List.take_left' (show(swV p).length=3 from rfl)];rfl
 | p::l,i+1,h=>by
  rw[zW,show(i+1)*3=3+i*3 by omega,<-List.drop_drop,List.drop_left' (show(swV p).length=3 from rfl)];exact zBg l i (by simpa using h)
theorem SwR.at {H:AH}{v:AV}{l:List Sw}(h:SwR H v l){i:Nat}(hi:i<l.length): ∃A o,(∀κ (z:Int),z=(i:Int)->cO 3 v (.int κ z)=some (.ptr A o))/\ldN 3 (.ptr A o) H=some (.agg (swV l[i]))/\Eng.ld1 (.ptr A (o+0)) H=some (.int .u8 ((l[i].kd:Nat):Int))/\Eng.ld1 (.ptr A (o+1)) H=some (S l[i].k)/\Eng.ld1 (.ptr A (o+2)) H=some (S l[i].v):=by
 obtain⟨A,o,c,e,sz,g,p,a,t,q,f⟩:=Rw.at h hi;rw[zBg l i hi]at f;have m: ∀j,j<3->c[o+j]? =(swV l[i])[j]? :=fun j s=>by
  have:=congrArg (fun x=>x[j]?) f;simp only[qP s,qN]at this;exact this
 exact⟨A,o,p,by rw[KC a q,f],kV a (m 0 (by omega)),kV a (m 1 (by omega)),kV a (m 2 (by omega))⟩
theorem SwR.lnSl {H:AH}{v:AV}{l:List Sw}(h:SwR H v l):Eng.lnSl v=some (.int .i64 ((l.length:Nat):Int)):=Rw.lnSl h
theorem SwR.prs {H H':AH}{v:AV}{l:List Sw}(h:SwR H v l)(s:Prs H H'):SwR H' v l:=Rw.prs h s
def Q3 (s:Sw)(kv:Kvs):Kvs:=if s.kd=0 then(if JX s.k s.v then putP s.k s.v kv else kv)else if s.kd=1 then delP s.k kv else kv
theorem zDn (k v:Str): ∀kv:Kvs,(putP k v kv).length<=kv.length+1
 | []=>by simp[putP]
 | (a,b)::l=>by
  have:=zDn k v l;rw[putP];split
  .simp
  .split
   .simp only[zO];omega
   .simp
theorem zFQ (s:Sw)(kv:Kvs)(h:Srt kv):(Q3 s kv).length<=kv.length+1:=by
 rw[Q3];split
 .split
  .exact zDn ..
  .omega
 .split
  .have:=Nd.del_len s.k h;split at this<;>omega
  .omega
theorem zJV (D:Dyn)(n:Nat)(F:100<=n){H:AH}{v:AV}{l:List Sw}(q:SwR H v l): ∃b,f50 D n [v] H=some (.bool b,H)/\(b=false->l.length<=60):=by
 have f:=q.lnSl;by_cases h60:60<l.length
 .have m:((60:Nat):Int)< ((l.length:Nat):Int):=by omega
  refine⟨true, ?_,fun h=>by cases h⟩;simp(maxSteps:=999999)(disch:=omega) only[f50,eZ,f,m]
 .have m: ¬((60:Nat):Int)< ((l.length:Nat):Int):=by omega
  have y: ∀(j i a:Nat),i+j=l.length->j<a-> ∃b,jb 0 (yJ a (zBk D n) [v, .int .i64 ((i:Nat):Int)] H) (zHw D n)=some (.ret (.bool b),H):=by
   intro j
   induction j with
   | zero=>
    intro i a z C;obtain⟨k,rfl⟩: ∃k,a=k+1:=⟨a - 1,by omega⟩;have x: ¬((i:Nat):Int)< ((l.length:Nat):Int):=by omega
    refine⟨false, ?_⟩;rw[y9 (i:=0) (vs':=[]) (H':=H) (by simp(maxSteps:=999999)(disch:=omega) only[zBk,eZ,f,x])];simp(maxSteps:=999999)(disch:=omega) only[jb,Nat.beq_refl,cond_true,zHw,eZ]
   | succ j ih=>
    intro i a z C;obtain⟨k,rfl⟩: ∃k,a=k+1:=⟨a - 1,by omega⟩;have p:((i:Nat):Int)< ((l.length:Nat):Int):=by omega
    have hi1:((i:Nat):Int)+((1:Nat):Int)=((i+1:Nat):Int):=by omega
    obtain⟨A,o,s,_,_,t,u⟩:=q.at (show i<l.length by omega);by_cases hb:(decide (((1000:Nat):Int)< ((l[i].k.length:Nat):Int))||decide (((1000:Nat):Int)< ((l[i].v.length:Nat):Int)))=true
    .refine⟨true, ?_⟩;rw[vW (v:= .bool true) (H':=H) (by
      simp(maxSteps:=999999)(disch:=omega) only[zBk,eZ,f,p,s,t,u,wY,hb,if_true])]
     rfl
    .obtain⟨b,e⟩:=ih (i+1) k (by omega) (by omega);refine⟨b, ?_⟩;rw[jO (vs':=[v, .int .i64 ((i+1:Nat):Int)]) (H':=H) (by simp(maxSteps:=999999)(disch:=omega) only[zBk,eZ,f,p,s,t,u,wY,hb,hi1,if_false]),e]
  obtain⟨b,e⟩:=y l.length 0 n (by omega) (by omega);refine⟨b, ?_,fun _=>by omega⟩;simp(maxSteps:=999999)(disch:=omega) only[f50,eZ,f,m,e]
structure Gst (E:Ev)(H:AH)(Gd Ad As At M L txg la:Nat)(is:Nat->Nat)(V W:Nat->Prop)(root:Ptr)(q:PN)(kv:Kvs)(T:List Ptr):Prop where
 tx:fV (.ptr Ad 0) .nilPtr E H At M L W root q kv T
 ds:Dsk H Ad As E.nb E.ws la is V
 us: ∀r∈dsk T++E.dl,is r.at_.toNat≠0
 gG: ∃lv,H.h.get Gd=some (.cells [.ptr At 0,lv, .ptr Ad 0, .ptr As 0, .int .i64 ((txg:Nat):Int)] 104 1 false)/\GrP H lv kv
theorem zAN {E:Ev}{H:AH}{Ad m At M L p nb:Nat}{s:Ws}{is:Nat->Nat}{V W:Nat->Prop}{d c:AV}{root:Ptr}{q:PN}{kv:Kvs}{T:List Ptr}(t:fV d c E H At M L W root q kv T)(u:Dsk H Ad m nb s p is V){B:Nat}{o:AObj}(a:H.h.get B=some o)(h:(∃l e g,o= .cells l e 2 g)\/ ∃l,o= .cells l 104 1 false): ¬W B/\ ¬V B:=by
 obtain⟨Z,es,Y,_,f,_,_,_,_,_,v⟩:=t;obtain⟨On,Nw,wv,dm,i,x,y,_⟩:=u;obtain⟨c8,z⟩:=x.bk;have C: ∀l e g,o≠ .cells l e 3 g:=by rcases h with⟨_,_,_,rfl⟩ | ⟨_,rfl⟩<;>simp
 have F: ∀l e g,o≠ .cells l e 513 g:=by rcases h with⟨_,_,_,rfl⟩ | ⟨_,rfl⟩<;>simp
 have j: ∀l e,o≠ .map l e:=by rcases h with⟨_,_,_,rfl⟩ | ⟨_,rfl⟩<;>simp
 have J: ∀l,o≠ .cells l 140 1 false:=by rcases h with⟨_,_,_,rfl⟩ | ⟨_,rfl⟩<;>simp
 have K: ∀l,o≠ .cells l 145 1 false:=by rcases h with⟨_,_,_,rfl⟩ | ⟨_,rfl⟩<;>simp
 have N: ∀l,o≠ .cells l 151 1 false:=by rcases h with⟨_,_,_,rfl⟩ | ⟨_,rfl⟩<;>simp
 constructor
 .intro O;rcases(v B).1 O with rfl | rfl | e
  .exact J _ (Option.some.inj (a.symm.trans f.gT))
  .exact j _ _ (Option.some.inj (a.symm.trans f.gM))
  .exact yX.nsep f.dg a (fun S g=>C _ S g) e
 .intro U;rcases(y B).1 U with rfl | rfl | rfl | e
  .exact K _ (Option.some.inj (a.symm.trans z))
  .exact N _ (Option.some.inj (a.symm.trans i.gD))
  .exact j _ _ (Option.some.inj (a.symm.trans i.gN))
  .exact F _ _ _ (Option.some.inj (a.symm.trans (i.ow.get e)))
theorem Gst.prs {E:Ev}{H H':AH}{Gd Ad a At M L txg f:Nat}{is:Nat->Nat}{V W:Nat->Prop}{root:Ptr}{q:PN}{kv:Kvs}{T:List Ptr}(w:Gst E H Gd Ad a At M L txg f is V W root q kv T)(s:Prs H H'):Gst E H' Gd Ad a At M L txg f is V W root q kv T:=by
 obtain⟨j,m,gl⟩:=w.gG;have h:=w.tx.d.okH;obtain⟨o,es,i,p,t,u⟩:=w.tx;exact⟨⟨o,es,i,p,t.prs s,u⟩,w.ds.prs h s,w.us,j,Prs.get s h m,gl.prs s⟩
theorem DskG.stp {S:Nat->Prop}{H H':AH}{Ad i nb j:Nat}{m:Ws}{is:Nat->Nat}{V:Nat->Prop}(d:Dsk H Ad i nb m j is V)(o:H.ok)(s:Stp S H H')(f: ∀B,V B-> ¬S B)(q: ∀B ks es,H.h.get B=some (.map ks es)->S B->ks=[10]):Dsk H' Ad i nb m j is V:=by
 obtain⟨t,u,v,x,p,y,a,r⟩:=d;exact⟨t,u,v,x,p.stp o s (f _ ((a _).2 (.inr (.inl rfl)))) (fun h=>by have:=q _ _ _ p.gO h;simp at this) (f _ ((a _).2 (.inr (.inr (.inl rfl))))) (fun B z=>f _ ((a _).2 (.inr (.inr (.inr z))))),y.stp o s (f _ ((a _).2 (.inl rfl))),a,r⟩
theorem TreeG.dsk {E:Ev}{H:AH}{Ad m At M L o nb:Nat}{p:Ws}{is:Nat->Nat}{V W:Nat->Prop}{d c:AV}{root:Ptr}{q:PN}{kv:Kvs}{T:List Ptr}(s:fV d c E H At M L W root q kv T)(t:Dsk H Ad m nb p o is V):(∀B,V B-> ¬W B)/\ ∀B ks es,H.h.get B=some (.map ks es)->W B->ks=[10]:=by
 obtain⟨x,es,v,_,f,_,_,_,_,_,j⟩:=s;have h:=zD6 f t;refine⟨fun B u i=>h B ?_ u,fun B ks es' a i=> ?_⟩
 .rcases(j B).1 i with e | e | e
  .exact .inl e
  .exact .inr (.inl e)
  .exact .inr (.inr (.inl e))
 .rcases(j B).1 i with rfl | rfl | e
  .rw[f.gT]at a;cases a
  .rw[f.gM]at a;cases a;rfl
  .exact absurd e (yX.nsep f.dg a (fun y g=>by simp))
theorem Gst.tree {E f:Ev}{H H':AH}{Gd Ad i At M L x txg p:Nat}{is:Nat->Nat}{V W s:Nat->Prop}{root u:Ptr}{q y:PN}{kv v:Kvs}{T m:List Ptr}(w:Gst E H Gd Ad i At M L txg p is V W root q kv T)(J:fV (.ptr Ad 0) .nilPtr f H' At M x s u y v m)(a:AdT W H s H')(c:Chd E f T m){j:AV}(o:H.h.get Gd=some (.cells [.ptr At 0,j, .ptr Ad 0, .ptr i 0, .int .i64 ((txg:Nat):Int)] 104 1 false))(gl:GrP H j kv):
  Dsk H' Ad i f.nb f.ws p is V/\(∀r∈dsk m++f.dl,is r.at_.toNat≠0)/\H'.h.get Gd=some (.cells [.ptr At 0,j, .ptr Ad 0, .ptr i 0, .int .i64 ((txg:Nat):Int)] 104 1 false)/\GrP H' j kv:=by
 have t:=w.tx.d.okH;obtain⟨z,C⟩:=TreeG.dsk w.tx w.ds;refine⟨?_,fun r hr=>w.us r (c.pm.mem_iff.1 hr), ?_, ?_⟩
 .rw[c.nb,c.ws];exact DskG.stp w.ds t a.1 z C
 .rw[a.1.keep _ (t.lt o) (zAN w.tx w.ds o (.inr ⟨_,rfl⟩)).1];exact o
 .exact gl.mono a.1 fun B F=>by
   obtain⟨l,e,g,h⟩:=yX.get2 gl F;exact(zAN w.tx w.ds h (.inl ⟨_,_,_,rfl⟩)).1
theorem Gst.note {E:Ev}{H H':AH}{Gd Ad m At M L t v:Nat}{is:Nat->Nat}{V W:Nat->Prop}{root:Ptr}{q:PN}{kv:Kvs}{T:List Ptr}{f:AV}(o:fV (.ptr Ad 0) .nilPtr E H At M L W root q kv T)(x:Dsk H Ad m E.nb E.ws v is V)(N: ∀r∈dsk T++E.dl,is r.at_.toNat≠0){O:Nat}{S:List AV}(i:H.h.get Gd=some (.cells (.ptr O 0::S) 104 1 false))(s:Stp (fun B=>B=Gd) H H')(U:H'.h.get Gd=some (.cells [.ptr At 0,f, .ptr Ad 0, .ptr m 0, .int .i64 ((t:Nat):Int)] 104 1 false))(gl:GrP H f kv):Gst E H' Gd Ad m At M L t v is V W root q kv T:=by
 have Y:=o.d.okH;obtain⟨p,Z⟩:=zAN o x i (.inr ⟨_,rfl⟩);have F: ∀B,Blk f B-> ¬B=Gd:=fun B a e=>by
  obtain⟨l,e',g,h⟩:=yX.get2 gl a;rw[e,i]at h;simp at h
 obtain⟨dr,es,C,h1,y,h3,h4,h5,h6,h7,j⟩:=o;have u:=DskG.stp x Y s (fun B a e=>Z (e▸a)) (fun B ks es' z e=>by rw[e,i]at z;cases z);refine⟨⟨dr,es,C,h1, ?_,h3,h4,h5,h6,h7,j⟩,u,N,f,U,gl.mono s F⟩;obtain⟨On,Nw,wv,dm,dk,sp,hV,_⟩:=u;refine y.wr s (fun B a e=> ?_) dk;subst e;rcases a with e | e | e | ⟨kv,J,e⟩
 .exact p ((j _).2 (.inl e))
 .exact p ((j _).2 (.inr (.inl e)))
 .exact p ((j _).2 (.inr (.inr e)))
 .obtain⟨nd,K⟩:=y.pq.node kv J;exact K.nblk i (.inl ⟨_,_,_,_,rfl,fun _ _ h=>by cases h⟩) e
theorem stG {H:AH}(f:H.ok){Gd:Nat}{a b c d x y:AV}(i:Nat)(l':List AV)(hl:l'=[a,b,c,d,x].set i y)(hi:i<5)(g:H.h.get Gd=some (.cells [a,b,c,d,x] 104 1 false))(j:isCell y=true): ∃H',stN 1 (.ptr Gd i) y H=some (qX,H')/\H'.h.get Gd=some (.cells l' 104 1 false)/\Stp (fun B=>B=Gd) H H'/\H'.next=H.next:=by
 subst hl;exact kK f g (o:=i) (x:=y) j (by simpa using hi)
end Go.Eng.Sh
end
section
set_option maxRecDepth 20000
namespace Go.Eng.Sh
open Go.Nd (Ptr sumL leafOf Kvs Srt mayK putP delP lookP)
open Go.Bt Go.Bk
theorem zIc (k:Str)(kv:Kvs):QL k kv=if mayK k then(if(lookP k kv).isSome then 0 else 5)else 1:=rfl
theorem zKu {k:Str}{kv:Kvs}(h: ∀p∈kv,mayK p.1=true):decide (((QL k kv:Nat):Int)=((0:Nat):Int))=(lookP k kv).isSome:=by
 rw[zIc]
 cases hl:lookP k kv with
 | none=>cases mayK k<;>simp
 | some v=>
  have hm:mayK k=true:=by
   by_cases e:mayK k=true
   .exact e
   .rw[Nd.look_none (fun p hp a=>e (by rw[<-a];exact h p hp))]at hl;cases hl
  simp[hm]
theorem Gst.srt {E:Ev}{H:AH}{Gd Ad a At M L txg f:Nat}{is:Nat->Nat}{V W:Nat->Prop}{root:Ptr}{q:PN}{kv:Kvs}{T:List Ptr}(w:Gst E H Gd Ad a At M L txg f is V W root q kv T):Srt kv/\ ∀p∈kv,mayK p.1=true/\p.2.length<=200:=by
 obtain⟨_,_,_,_,_,_,_,_,_,hr,_⟩:=w.tx;exact hr.srt
theorem zJr (D:Dyn)(n:Nat){E:Ev}{H:AH}{At M L:Nat}{W:Nat->Prop}{d c:AV}{root:Ptr}{q:PN}{kv:Kvs}{T:List Ptr}(a:fV d c E H At M L W root q kv T): ∃H',f19 D n [.ptr At 0] H=some (.agg (qZ root),H')/\Prs H H':=by
 obtain⟨_,_,_,_,f,_⟩:=a;exact zDk D n f
theorem Gst.side {E:Ev}{H H':AH}{Gd Ad p At M L txg t:Nat}{is:Nat->Nat}{V W:Nat->Prop}{root:Ptr}{q:PN}{kv:Kvs}{T:List Ptr}(w:Gst E H Gd Ad p At M L txg t is V W root q kv T){A e:Nat}{x:AV}{r:List AV}(m:H.h.get A=some (.cells (x::r) e 1 false))(N: ∀a b,x≠ .str a b)(i: ¬(W A\/V A))(O:A≠Gd)(s:Stp (fun B=>B=A) H H'):Gst E H' Gd Ad p At M L txg t is V W root q kv T:=by
 obtain⟨u,S,U,Y,v,gl⟩:=w;have y:=u.d.okH;have o:=DskG.stp S y s (fun B f e=>i (.inr (e▸f))) (fun B ks es' z e=>by rw[e,m]at z;cases z);obtain⟨Z,es,F,h1,C,h3,h4,h5,h6,h7,j⟩:=u;refine⟨⟨Z,es,F,h1, ?_,h3,h4,h5,h6,h7,j⟩,o,U,Y,by rw[s.keep _ (y.lt v) (fun e=>O e.symm)];exact v,gl.mono s fun B f e=> ?_⟩
 .obtain⟨On,Nw,wv,dm,dk,sp,hV,_⟩:=o;refine C.wr s (fun B f e=> ?_) dk;subst e;rcases f with e | e | e | ⟨kv,J,e⟩
  .exact i (.inl ((j _).2 (.inl e)))
  .exact i (.inl ((j _).2 (.inr (.inl e))))
  .exact i (.inl ((j _).2 (.inr (.inr e))))
  .obtain⟨nd,K⟩:=C.pq.node kv J;exact K.nblk m (.inl ⟨_,_,_,_,rfl,N⟩) e
 .obtain⟨l,e',g,h⟩:=yX.get2 gl f;subst e;rw[m]at h;simp at h
def GS (H0:AH)(Gd i:Nat)(kv:Kvs)(H:AH):Prop:= ∃E Ad a At M L txg f is V W root q T,Gst E H Gd Ad a At M L txg f is V W root q kv T/\L<=200*i/\txg<=i/\kv.length<=i/\Prs H0 H/\ ∀B,(W B\/V B\/B=Gd)->H0.next<=B
theorem GS.prs {H0 H H':AH}{Gd i:Nat}{kv:Kvs}(g:GS H0 Gd i kv H)(p:Prs H H'):GS H0 Gd i kv H':=by
 obtain⟨E,Ad,f,At,M,L,txg,h,is,V,W,root,q,T,w,a,b,c,d,e⟩:=g;exact⟨E,Ad,f,At,M,L,txg,h,is,V,W,root,q,T,w.prs p,a,b,c,d.trans p,e⟩
theorem zES (m n:Nat)(hm:400000000<=m)(hn:300000000<=n){H0 H:AH}(k2:H0.ok){v:AV}{l:List Sw}(hv:SwR H0 v l){Gd i:Nat}(hi:i<l.length)(hl:l.length<=60){kv:Kvs}(g:GS H0 Gd i kv H):
  ∃H',ZA (dy (m+2)) n [.ptr Gd 0,v, .int .i64 ((i:Nat):Int)] H=some (.norm [.ptr Gd 0,v, .int .i64 ((i+1:Nat):Int)],H')/\GS H0 Gd (i+1) (Q3 l[i] kv) H':=by
 obtain⟨E,Ad,C,At,M,L,txg,la,is,V,W,root,q,T,w,hL,k3,k4,p0,j⟩:=g;have f1:SwR H v l:=hv.prs p0;have a9:=f1.lnSl;have b0:((i:Nat):Int)< ((l.length:Nat):Int):=by omega
 have hi1:((i:Nat):Int)+((1:Nat):Int)=((i+1:Nat):Int):=by omega
 obtain⟨A,o,i1,i2,_,_,_⟩:=f1.at hi;have b2:=i1 .i64 _ rfl;generalize l[i]=s at*
 obtain⟨hs,h2⟩:=w.srt;have hk:=w.tx.d.okH;obtain⟨H1,F,b1,p1,g1,m1,n1⟩:=box hk (.cells [.int .u8 ((0:Nat):Int), .str 0 0, .str 0 0] 113 1 false);obtain⟨H2,e2,g2,s2,n2⟩:=yA p1.ok g1 (l':=swV s) rfl rfl;have b3:stN 3 (.ptr F 0) (.agg (swV s)) H1=some (qX,H2):=e2;have b5:bxV 113 (.agg [.int .u8 ((0:Nat):Int), .str 0 0, .str 0 0])=some (.cells [.int .u8 ((0:Nat):Int), .str 0 0, .str 0 0] 113 1 false,fun A=> .ptr A 0):=rfl;have P2:Prs H H2:=p1.fresh s2 fun B a=>by omega
 have N1:=p1.next;have N2:=s2.next;have N0:=p0.next
 have w2:=w.prs P2;have d0:=p0.trans P2;have f2:=P2.ok;obtain⟨N,a2,d1⟩:=w2.gG;have l6:F<H2.next:=f2.lt g2
 have z6: ¬(W F\/V F):=fun h=>by
  rcases h with h | h
  .have:=w.tx.d.lt F h;omega
  .have:=w.ds.lt hk F h;omega
 have rd: ∀ {G:AH},G.h.get F=some (.cells (swV s) 113 1 false)->Eng.ld1 (.ptr F 0) G=some (.int .u8 ((s.kd:Nat):Int))/\Eng.ld1 (.ptr F 1) G=some (S s.k)/\Eng.ld1 (.ptr F 2) G=some (S s.v):=fun h=>⟨by rw[qT h];rfl,by rw[qT h];rfl,by rw[qT h];rfl⟩
 obtain⟨y0,y1,y2⟩:=rd g2;have rg: ∀ {G:AH} {at_:Nat} {N:AV} {t:Nat},G.h.get Gd=some (.cells [.ptr at_ 0,N, .ptr Ad 0, .ptr C 0, .int .i64 ((t:Nat):Int)] 104 1 false)->Eng.ld1 (.ptr Gd 0) G=some (.ptr at_ 0)/\Eng.ld1 (.ptr Gd 1) G=some N/\Eng.ld1 (.ptr Gd 2) G=some (.ptr Ad 0)/\Eng.ld1 (.ptr Gd 3) G=some (.ptr C 0)/\Eng.ld1 (.ptr Gd 4) G=some (.int .i64 ((t:Nat):Int)):=fun h=>⟨by rw[qT h];rfl,by rw[qT h];rfl,by rw[qT h];rfl,by rw[qT h];rfl,by rw[qT h];rfl⟩
 obtain⟨x0,x1,_,x3,x4⟩:=rg a2;have k1:=zFQ s kv hs;have nG:F≠Gd:=fun e=>by rw[e,a2]at g2;simp[swV]at g2
 by_cases c6:s.kd=0
 .have b6:((s.kd:Nat):Int)=((0:Nat):Int):=by omega
  obtain⟨H3,E3,W3,T3,e3,t3,O,c3⟩:=zMN m n (by omega) hn (k:=s.k) (v:=s.v) w2.tx.d (by omega) (by omega);obtain⟨a1,q3,u⟩:=t3.x;obtain⟨b8,b9,a4,a6⟩:=w2.tree u O c3 a2 d1;have N3:=O.1.next
  have c0:Prs H0 H3:=d0.fresh O.1 fun B a=>j B (.inl a)
  have b7: ∀B,(W3 B\/V B\/B=Gd)->H0.next<=B:=fun B a=>by
   rcases a with x | x | x
   .rcases O.2 B x with y | y
    .exact j B (.inl y)
    .omega
   .exact j B (.inr (.inl x))
   .exact j B (.inr (.inr x))
  by_cases hp:JX s.k s.v=true
  .rw[if_pos hp]at e3 u;have g3:=(O.1.keep F l6 (fun h=>z6 (.inl h))).trans g2;obtain⟨_,d2,h3⟩:=rd g3;obtain⟨d3,d4,_⟩:=rg a4;obtain⟨H4,v4,e4,f,g4⟩:=zMD (dy (m+2)) n u.d.okH hs a6.row (by omega) (by omega) s.k s.v;have J:=Prs.get f u.d.okH a4;obtain⟨H5,e5,g5,s5,n5⟩:=stG f.ok (y:=v4) 1 [.ptr At 0,v4, .ptr Ad 0, .ptr C 0, .int .i64 ((txg:Nat):Int)] rfl (by omega) J g4.1.row.isCell;have a0:Q3 s kv=putP s.k s.v kv:=by simp only[Q3,c6,if_true,hp]
   have h4:fV (.ptr Ad 0) .nilPtr E3 H4 At M (L+200) W3 a1 q3 (putP s.k s.v kv) T3:=by
    obtain⟨dr,es,c7,z1,z2,z3⟩:=u;exact⟨dr,es,c7,z1,z2.prs f,z3⟩
   refine⟨H5, ?_,E3,Ad,C,At,M,L+200,txg,la,is,V,W3,a1,q3,T3, ?_,by omega,by omega,by omega,(c0.trans f).fresh s5 fun B a=>j B (.inr (.inr a)),b7⟩
   .simp(maxSteps:=999999)(disch:=omega) only[ZA,eZ,a9,b0,b2,i2,b5,b1,b3,y0,b6,x0,y1,y2,e3,d4,d2,h3,e4,e5,KR,KQ,KS,hi1]
   .rw[a0];exact Gst.note h4 (b8.prs u.d.okH f) b9 J s5 g5 g4.1
  .rw[if_neg hp]at e3 u;have d5: ¬((1:Nat):Int)=((0:Nat):Int):=by omega
   have a0:Q3 s kv=kv:=by simp only[Q3,c6,if_true,hp,if_false];rfl
   refine⟨H3, ?_,E3,Ad,C,At,M,L+200,txg,la,is,V,W3,a1,q3,T3, ?_,by omega,by omega,by omega,c0,b7⟩
   .simp(maxSteps:=999999)(disch:=omega) only[ZA,eZ,a9,b0,b2,i2,b5,b1,b3,y0,b6,x0,y1,y2,e3,d5,KR,KQ,KS,hi1]
   .rw[a0];exact⟨u,b8,b9,N,a4,a6⟩
 .have b6: ¬((s.kd:Nat):Int)=((0:Nat):Int):=by omega
  by_cases f3:s.kd=1
  .have c1:((s.kd:Nat):Int)=((1:Nat):Int):=by omega
   obtain⟨H3,E3,W3,T3,e3,t3,O,c3⟩:=zNI m n (by omega) hn (k:=s.k) w2.tx.d (by omega) (by omega);obtain⟨a1,q3,u⟩:=t3.x;obtain⟨b8,b9,a4,a6⟩:=w2.tree u O c3 a2 d1;have N3:=O.1.next
   have c0:Prs H0 H3:=d0.fresh O.1 fun B a=>j B (.inl a)
   have b7: ∀B,(W3 B\/V B\/B=Gd)->H0.next<=B:=fun B a=>by
    rcases a with x | x | x
    .rcases O.2 B x with y | y
     .exact j B (.inl y)
     .omega
    .exact j B (.inr (.inl x))
    .exact j B (.inr (.inr x))
   have hd:=zKu (k:=s.k) fun p hp=>(h2 p hp).1
   have g8:(if QL s.k kv=0 then delP s.k kv else kv)=delP s.k kv:=by
    by_cases e:QL s.k kv=0
    .rw[if_pos e]
    .rw[if_neg e];have:(lookP s.k kv).isSome=false:=by rw[<-hd];exact decide_eq_false (by omega)
     exact(del_none (look_not (by simpa using this))).symm
   rw[g8]at u;have g3:=(O.1.keep F l6 (fun h=>z6 (.inl h))).trans g2;obtain⟨_,d2,_⟩:=rd g3;obtain⟨_,d4,_⟩:=rg a4;obtain⟨H4,e4,f⟩:=zMG (dy (m+2)) n u.d.okH hs a6.row (by omega) (by omega) s.k;have J:=Prs.get f u.d.okH a4;obtain⟨_,h5,_⟩:=rg J;obtain⟨_,h6,_⟩:=rd (Prs.get f u.d.okH g3);obtain⟨H5,v5,e5,U,g5,_⟩:=zCb (dy (m+2)) n f.ok (a6.prs f).row (by omega) (by omega) s.k;rw[Nd.filt_del s.k hs]at g5;have a7:=Prs.get U f.ok J;obtain⟨H6,e6,g6,Y,n6⟩:=stG U.ok (y:=v5) 1 [.ptr At 0,v5, .ptr Ad 0, .ptr C 0, .int .i64 ((txg:Nat):Int)] rfl (by omega) a7 g5.1.row.isCell;have a0:Q3 s kv=delP s.k kv:=by simp only[Q3,f3,if_true];rfl
   have c2:fV (.ptr Ad 0) .nilPtr E3 H5 At M (L+200) W3 a1 q3 (delP s.k kv) T3:=by
    obtain⟨dr,es,c7,z1,z2,z3⟩:=u;exact⟨dr,es,c7,z1,z2.prs (f.trans U),z3⟩
   have h7:(!(decide (((QL s.k kv:Nat):Int)=((0:Nat):Int))==(lookP s.k kv).isSome))=false:=by rw[hd];simp
   have h8: ∀K:Rs,chk (some N) N K=K:=fun K=>j8 rfl (yK a6.row)
   have h9: ∀K:Rs,chk (some (S s.k)) (S s.k) K=K:=fun K=>j8 rfl (by simp[aveq,S])
   have i0: ∀x y:Rs,cnd (.bool false) x y=y:=fun _ _=>rfl
   have d5: ¬((1:Nat):Int)=((0:Nat):Int):=by omega
   refine⟨H6, ?_,E3,Ad,C,At,M,L+200,txg,la,is,V,W3,a1,q3,T3, ?_,by omega,by omega,by omega,((c0.trans f).trans U).fresh Y fun B a=>j B (.inr (.inr a)),b7⟩
   .simp(maxSteps:=999999)(disch:=omega) only[ZA,eZ,a9,b0,b2,i2,b5,b1,b3,y0,c1,d5,x0,y1,x1,e3,d4,d2,h8,h9,e4,zBJ,h7,i0,h5,h6,e5,e6,XI,KQ,KS,hi1]
   .rw[a0];exact Gst.note c2 (b8.prs u.d.okH (f.trans U)) b9 a7 Y g6 g5.1
  .have c1: ¬((s.kd:Nat):Int)=((1:Nat):Int):=by omega
   have a0:Q3 s kv=kv:=by simp only[Q3,c6,f3,if_false]
   have f4:((txg:Nat):Int)+((1:Nat):Int)=((txg+1:Nat):Int):=by omega
   obtain⟨H3,e3,g3,s3,n3⟩:=stG f2 (y:= .int .i64 ((txg+1:Nat):Int)) 4 [.ptr At 0,N, .ptr Ad 0, .ptr C 0, .int .i64 ((txg+1:Nat):Int)] rfl (by omega) a2 rfl;have w3:Gst E H3 Gd Ad C At M L (txg+1) la is V W root q kv T:=Gst.note w2.tx w2.ds w2.us a2 s3 g3 d1;obtain⟨H4,A7,b4,f,g4,m4,n4⟩:=box s3.ok (.cells [.int .i64 ((0:Nat):Int), .int .i64 ((0:Nat):Int), .int .u64 ((0:Nat):Int)] 42 1 false);have e1:bxV 42 (.agg [.int .i64 ((0:Nat):Int), .int .i64 ((0:Nat):Int), .int .u64 ((0:Nat):Int)])=some (.cells [.int .i64 ((0:Nat):Int), .int .i64 ((0:Nat):Int), .int .u64 ((0:Nat):Int)] 42 1 false,fun A=> .ptr A 0):=rfl;have Z:=w3.prs f;have J:=Prs.get f s3.ok g3;have N3:=s3.next;have N4:=f.next
   have f5:Prs H0 H4:=(d0.fresh s3 fun B a=>j B (.inr (.inr a))).trans f;have l7:A7<H4.next:=f.ok.lt g4
   have z7: ¬(W A7\/V A7):=fun h=>by
    rcases h with h | h
    .have:=w3.tx.d.lt A7 h;omega
    .have:=w3.ds.lt s3.ok A7 h;omega
   have d6:A7≠Gd:=fun e=>by rw[e,J]at g4;simp at g4
   obtain⟨_,_,_,_,_⟩:=rg g3;obtain⟨d3,_,_,f6,f7⟩:=rg g3;have k5:=(rg J).1;obtain⟨k6,c8,h0⟩:=Z.gG;have f8:GrP H4 N kv:=by
    rw[J]at c8;simp only[zB,AObj.cells.injEq,List.cons.injEq]at c8;rw[c8.1.2.1];exact h0
   have i3: ¬(((0:Nat):Int)≠((0:Nat):Int)):=by omega
   have i4:((3:Nat):Int)≠((0:Nat):Int):=by omega
   obtain⟨H5,⟨_,e5,U⟩ | ⟨k8,c4,d7,la',V',a8,T',M',W',dr,e5,c2,i5,o5,a5,k9,l0⟩⟩:=zJ6 (m+2) n (by omega) (by omega) (txg:=txg+1) Z.tx Z.ds (fun r hr d8=>Z.us r (qB _ (WI.2 ⟨hr,d8⟩))) (by omega) (by omega) (by omega)
   .obtain⟨H6,e6,g6,Y,n6⟩:=yA U.ok (Prs.get U f.ok g4) (l':=[.int .i64 ((0:Nat):Int), .int .i64 ((0:Nat):Int), .int .u64 ((0:Nat):Int)]) rfl rfl;have d9:stN 3 (.ptr A7 0) (.agg [.int .i64 ((0:Nat):Int), .int .i64 ((0:Nat):Int), .int .u64 ((0:Nat):Int)]) H5=some (qX,H6):=e6;refine⟨H6, ?_,E,Ad,C,At,M,L,txg+1,la,is,V,W,root,q,T, ?_,by omega,by omega,by omega,(f5.trans U).fresh Y fun B a=>by omega,j⟩
    .simp(maxSteps:=999999)(disch:=omega) only[ZA,eZ,a9,b0,b2,i2,b5,b1,b3,y0,b6,c1,x4,f4,e3,d3,f6,f7,e1,b4,e5,qV,nth,d9,i4,ne_eq,not_false_eq_true,if_true,KS,hi1]
    .rw[a0];exact(Z.prs U).side (Prs.get U f.ok g4) (fun _ _ h=>by cases h) z7 d6 Y
   .obtain⟨k7,i6,l1⟩:=a5.keep (A:=A7) l7 z7;obtain⟨kG,zG,lG⟩:=a5.keep (A:=Gd) (f.ok.lt J) (fun h=>by
     obtain⟨o1,o2⟩:=zAN Z.tx Z.ds J (.inr ⟨_,rfl⟩);rcases h with h | h;exact o1 h;exact o2 h)
    have a7:=kG.trans J;have g5:=k7.trans g4;have f9:=c2.d.okH;have i7:=o5.used (fun r hr d8=>Z.us r (qB _ (WI.2 ⟨hr,d8⟩)));have i8:GrP H5 N kv:=f8.mono a5.1 fun B a=>by
     obtain⟨l,e,g,h⟩:=yX.get2 f8 a;obtain⟨y1,y2⟩:=zAN Z.tx Z.ds h (.inl ⟨_,_,_,rfl⟩);exact fun x=>by rcases x with x | x;exact y1 x;exact y2 x
    have w5:Gst { E with ws:=c4,dl:=[] } H5 Gd Ad C At M' L (txg+1) la' d7 V' W' a8 [] kv T':=⟨c2,i5,fun r hr=>by rw[List.append_nil]at hr;exact(i7 r (WI.1 hr).1).2,N,a7,i8⟩;obtain⟨H6,e6,g6,Y,n6⟩:=yA f9 g5 (l':=qZ a8) rfl rfl;have d9:stN 3 (.ptr A7 0) (.agg (qZ a8)) H5=some (qX,H6):=e6;have w6:=w5.side g5 (fun _ _ h=>by cases h) i6 d6 Y;obtain⟨H7,e7,p7⟩:=zJr (dy (m+2)) n w6.tx;have w7:=w6.prs p7;obtain⟨On,Nw,wv,dm,i9,_⟩:=id w7.ds;obtain⟨_,_,_,_,_,_,_,_,_,j0,_⟩:=w7.tx;obtain⟨H8,c5,M8,W8,e8,p8,j1,j2⟩:=zDt (dy (m+2)) n (by omega) (E:= { E with ws:=c4,dl:=[] }) p7.ok (Ad:=Ad) ⟨On,Nw,wv,dm,i9⟩ j0;have w8:=w7.prs p8;have g0:H6.h.get Gd=_:=(Y.keep Gd (f9.lt a7) (fun e=>d6 e.symm)).trans a7;have g7:=Prs.get p7 Y.ok g0;have e0:=Prs.get p8 p7.ok g7;obtain⟨j3,_,j4,_,_⟩:=rg g0;obtain⟨_,_,j5,_,_⟩:=rg g7;obtain⟨l2,c9,h1⟩:=w8.gG;have j6:GrP H8 N kv:=by
     rw[e0]at c9;simp only[zB,AObj.cells.injEq,List.cons.injEq]at c9;rw[c9.1.2.1];exact h1
    obtain⟨H9,e9,g9,s9,n9⟩:=stG p8.ok (y:= .ptr c5 0) 0 [.ptr c5 0,N, .ptr Ad 0, .ptr C 0, .int .i64 ((txg+1:Nat):Int)] rfl (by omega) e0 rfl;have w9:Gst { E with ws:=c4,dl:=[] } H9 Gd Ad C c5 M8 0 (txg+1) la' d7 V' W8 a8 [] kv T':=Gst.note j1 w8.ds w8.us e0 s9 g9 j6;have j7: ∀K:Rs,chk (some (.ptr Ad 0)) (.ptr Ad 0) K=K:=fun K=>j8 rfl (by simp[aveq])
    have N5:=a5.1.next;have N6:=Y.next;have N7:=p7.next;have N8:=p8.next
    have j9:Prs H0 H5:=f5.fresh a5.1 fun B a=>j B (by rcases a with h | h;exact .inl h;exact .inr (.inl h))
    have k0:Prs H0 H8:=((j9.fresh Y fun B a=>by omega).trans p7).trans p8;refine⟨H9, ?_, { E with ws:=c4,dl:=[] },Ad,C,c5,M8,0,txg+1,la',d7,V',W8,a8,[],T',by rw[a0];exact w9,by omega,by omega,by omega,k0.fresh s9 fun B a=>j B (.inr (.inr a)),fun B a=> ?_⟩
    .simp(maxSteps:=999999)(disch:=omega) only[ZA,eZ,a9,b0,b2,i2,b5,b1,b3,y0,b6,c1,x4,f4,e3,d3,f6,f7,e1,b4,e5,qV,nth,d9,i3,j3,j4,e7,j5,j7,e8,e9,XI,KQ,KS,hi1]
    .rcases a with x | x | x
     .have:=j2 B x;omega
     .rcases a5.2 B (.inr x)with z | z
      .exact j B (by rcases z with h | h;exact .inl h;exact .inr (.inl h))
      .omega
     .exact j B (.inr (.inr x))
end Go.Eng.Sh
end
section
set_option maxRecDepth 20000
namespace Go.Eng.Sh
open Go.Nd (Ptr sumL leafOf Kvs Srt mayK putP delP lookP)
open Go.Bt Go.Bk
theorem YW {H H':AH}(f:H.ok)(P:Prs H H'){A j:Nat}{x:AV}(h:ld1 (.ptr A j) H=some x):ld1 (.ptr A j) H'=some x:=by
 cases a:H.h.get A with
 | none=>simp[ld1,a]at h
 | some o=>rw[P.ld1 j (f.lt a) (fun x=>x)];exact h
def wP (l:List Sw):Kvs:=l.foldl (fun kv s=>Q3 s kv) []
theorem grow_ok (m n:Nat)(hm:400000000<=m)(y:300000000<=n){H0 H:AH}(s:H0.ok){v:AV}{l:List Sw}(j:SwR H0 v l){Gd:Nat}(hl:l.length<=60)(g:GS H0 Gd 0 [] H):
  ∃H',f64 (dy (m+2)) n [.ptr Gd 0,v] H=some (.bool true,H')/\GS H0 Gd l.length (wP l) H':=by
 have z:=xC (b:=ZA (dy (m+2)) n) l.length (fun i f H'=>f=[.ptr Gd 0,v, .int .i64 ((i:Nat):Int)]/\GS H0 Gd i (wP (l.take i)) H') (fun i f H' hi ⟨t,g⟩=>by
  subst t;obtain⟨C,F,J⟩:=zES m n hm y s j hi hl g;refine⟨_,C,F,rfl, ?_⟩;have:wP (l.take (i+1))=Q3 l[i] (wP (l.take i)):=by
   rw[wP,zU hi,List.foldl_append];rfl
  rw[this];exact J) n _ H ⟨rfl,g⟩ (by omega)
 obtain⟨q,f,a,K,rfl,h⟩:=z;rw[qJ]at h;have u:SwR a v l:=by
  obtain⟨_,_,_,_,_,_,_,_,_,_,_,_,_,_,_,_,_,_,p,_⟩:=h;exact j.prs p
 have x:=u.lnSl;refine⟨a, ?_,h⟩;have o:yJ (q+1) (ZA (dy (m+2)) n) [.ptr Gd 0,v, .int .i64 ((l.length:Nat):Int)] a=some (.exit 0 [],a):=y9 (by simp only[ZA,eZ,x,qC]);simp(maxSteps:=999999)(disch:=omega) only[f64,eZ,K,o,zHs]
theorem zJI (m n:Nat)(hm:400000000<=m)(S:300000000<=n){H:AH}(u:H.ok){v:AV}{l:List Sw}(U:SwR H v l)(hl:l.length<=60):
  ∃H' Gd,f52 (dy (m+2)) n [v] H=some (.tuple [.ptr Gd 0, .bool true],H')/\GS H Gd l.length (wP l) H':=by
 obtain⟨H1,Ad,y,j,V,h,m1,mO,mN,Y⟩:=zKr (dy (m+2)) n u (nb:=1024) (by omega) (by omega);obtain⟨Z,a,e2,f,m2,sp⟩:=zMt (dy (m+2)) n (by omega) h.ok (nb:=1024) (by omega) (by omega);have s:=Y.prs h.ok f;obtain⟨H4,At,M,W,e4,o,tx,J⟩:=zDt (dy (m+2)) n (by omega) (E:=⟨1024,[],[]⟩) f.ok (p:=pZ) (kv:=[]) (T:=[]) ⟨y,j,_,_,s⟩ (.inl ⟨rfl,rfl,rfl⟩);obtain⟨q,Gd,b5,z,g5,m5,n5⟩:=box o.ok (.cells [.ptr At 0, .nilSlice, .ptr Ad 0, .ptr a 0, .int .i64 ((0:Nat):Int)] 104 1 false);have N1:=h.next;have N2:=f.next;have N4:=o.next
 have i:=o.trans z;have K:=sp.stp f.ok i fun x=>x
 have L:=s.prs f.ok i;have N:fV (.ptr Ad 0) .nilPtr ⟨1024,[],[]⟩ q At M 0 W pZ [] [] []:=by
  obtain⟨dr,es,F,h1,h2,h3⟩:=tx;exact⟨dr,es,F,h1,h2.prs z,h3⟩
 have w:Gst ⟨1024,[],[]⟩ q Gd Ad a At M 0 0 0 zMY (fun B=>B=a\/B=Ad\/B=j\/Blk .nilSlice B) W pZ [] [] []:=⟨N,⟨y,j,_,_,L,K,fun B=>Iff.rfl,by decide,by decide,by decide, .inr rfl,⟨by decide,by decide⟩,by
  have:=zE7 zMY 0 1024;show 0+cnt zMY 0 1024<=990000;omega⟩,by simp[dsk],⟨.nilSlice,g5, .inl (Own.nil ..)⟩⟩
 obtain⟨C,e6,g6⟩:=grow_ok m n hm S u U hl (Gd:=Gd) (H:=q) ⟨⟨1024,[],[]⟩,Ad,a,At,M,0,0,0,zMY,_,W,pZ,[],[],w,by omega,by omega,by simp,(h.trans f).trans i,fun B hB=>by
  rcases hB with e | (e | e | e | e) | e
  .have:=J B e;omega
  .omega
  .omega
  .omega
  .exact(Blk.nil.1 e).elim
  .omega⟩
 have t: ¬(((0:Nat):Int)≠((0:Nat):Int)):=by omega
 have bz:xE [(0,1),(1,1),(2,1)] [.int .i64 ((0:Nat):Int), .int .i64 ((0:Nat):Int), .int .u64 ((0:Nat):Int)] []=some (.agg (qZ pZ)):=rfl;have bs:xE [(0,1),(1,1),(2,1),(3,1),(4,1)] [.nilPtr, .nilSlice, .nilPtr, .nilPtr, .int .i64 ((0:Nat):Int)] [(0, .ptr At 0),(2, .ptr Ad 0),(3, .ptr a 0)]=some (.agg [.ptr At 0, .nilSlice, .ptr Ad 0, .ptr a 0, .int .i64 ((0:Nat):Int)]):=rfl;have O:bxV 104 (.agg [.ptr At 0, .nilSlice, .ptr Ad 0, .ptr a 0, .int .i64 ((0:Nat):Int)])=some (.cells [.ptr At 0, .nilSlice, .ptr Ad 0, .ptr a 0, .int .i64 ((0:Nat):Int)] 104 1 false,fun A=> .ptr A 0):=rfl;have hb:f63 (dy (m+2)) n [.ptr Ad 0, .ptr a 0,v] Z=some (.tuple [.ptr Gd 0, .bool true],C):=by
  simp(maxSteps:=999999)(disch:=omega) only[f63,eZ,bz,e4,qV,nth,t,bs,O,b5,e6]
 refine⟨C,Gd, ?_,g6⟩;simp(maxSteps:=999999)(disch:=omega) only[f52,eZ,V,e2,qV,nth,t,hb,decide_false,Bool.or_false]
theorem GS.at {H0 H:AH}{Gd i:Nat}{kv:Kvs}(g:GS H0 Gd i kv H): ∃At Ad E M L W root q T a,Eng.ld1 (.ptr Gd 0) H=some (.ptr At 0)/\Eng.ld1 (.ptr Gd 1) H=some a/\fV (.ptr Ad 0) .nilPtr E H At M L W root q kv T/\L<=200*i/\GrP H a kv/\Srt kv/\kv.length<=i/\Prs H0 H:=by
 obtain⟨E,Ad,p,At,M,L,txg,s,is,V,W,root,q,T,w,hL,o,h,j,m⟩:=g;obtain⟨a,f,gl⟩:=w.gG;exact⟨At,Ad,E,M,L,W,root,q,T,a,by rw[qT f];rfl,by rw[qT f];rfl,w.tx,hL,gl,w.srt.1,h,j⟩
theorem aU (m:Nat)(hm:700000000<=m){H0 H:AH}{Gd i:Nat}{kv:Kvs}(g:GS H0 Gd i kv H)(hi:i<=60)(fr to:Str){most:Nat} : ∃At H' v,Eng.ld1 (.ptr Gd 0) H=some (.ptr At 0)/\f53 (dy (m+1)) (m+1) [.ptr At 0,S fr,S to, .int .i64 ((most:Nat):Int)] H=some (.tuple [v, .bool (decide (most< (yO fr to kv).length)), .int .i64 ((0:Nat):Int)],H')/\Prs H H'/\yX 2 48 H' v ((yO fr to kv).take most).length (((yO fr to kv).take most).flatMap prV)/\(∀B,Blk v B->H.next<=B)/\Eng.ld1 (.ptr Gd 0) H'=some (.ptr At 0)/\GS H0 Gd i kv H':=by
 obtain⟨At,Ad,E,M,L,W,root,q,T,s,a,x1,h,hL,gl,t,o,u⟩:=g.at
 obtain⟨H',v,e,p,j,f⟩:=zGj m hm h (by omega) (by omega) fr to (most:=most) (Nat.zero_le _);exact⟨At,H',v,a,e,p,j,f,YW h.d.okH p a,g.prs p⟩
theorem hJ (fr to:Str)(kv:Kvs):(yO fr to kv).length<=kv.length:=List.length_filter_le _ _
end Go.Eng.Sh
end
section
set_option maxRecDepth 20000
namespace Go.Eng.Sh
open Go.Nd (Ptr sumL leafOf Kvs Srt mayK putP delP lookP)
open Go.Bt Go.Bk
theorem V4 (m:Nat)(hm:800000000<=m){H0 H:AH}{Gd i:Nat}{kv:Kvs}(g:GS H0 Gd i kv H)(hi:i<=60)(x:Str)(hx:x.length<=1000):
  ∃H',zKb (dy (m+3)) (m+3) [S x, .ptr Gd 0] H=some (.ret (.bool true),H')/\Prs H0 H':=by
 obtain⟨_,_,_,_,_,_,_,_,_,_,_,_,a7,_,_,_,_,_⟩:=g.at
 obtain⟨H1,Y,p1⟩:=zIA (dy (m+3)) (m+3) (by omega) a7.d.okH x hx;obtain⟨At,Z,t,y0,e2,p2,ga,fa,y2,g2⟩:=aU (m+2) (by omega) (g.prs p1) hi x (uC x) (most:=999);have b5:=hJ x (uC x) kv;obtain⟨b6,Ad,E,M,L,W,root,q,T,lv,x0,x1,tx,hL,gl,hs,b7,p0⟩:=g2.at
 have a8:decide (999< (yO x (uC x) kv).length)=false:=decide_eq_false (by omega);rw[a8]at e2;rw[zP (by omega),zCS]at ga;have a9:Eng.ld1 (.ptr Gd 0) H=some (.ptr At 0):=by
  obtain⟨b8,_,_,_,_,_,_,_,_,_,z0,_,tz,_⟩:=g.at
  rw[z0,<-YW tz.d.okH p1 z0];exact y0
 have F:=tx.d.okH;have j:lnSl lv=some (.int .i64 ((kv.length:Nat):Int)):=Rw.lnSl gl.row;have hS:(AV.str 0 0)=S []:=rfl;have lp:=xC (b:=XG (dy (m+3)) (m+3)) kv.length (fun i us H'=> ∃w,us=[S x, .ptr Gd 0,t, .int .i64 ((0:Nat):Int),w, .int .i64 ((i:Nat):Int)]/\Prs Z H'/\PrG H' w ((kv.take i).filter fun p=>x.isPrefixOf p.1)/\ ∀B,Blk w B->Z.next<=B) (fun i us H' a0 ⟨w,hus,P,gw,f⟩=>by
  subst hus;have h':zC0 H' lv kv:=(gl.prs P).row;have J:=YW F P x1;obtain⟨A,o,i1,i2,i3,_⟩:=h'.at a0;have O:Eng.ld1 (.ptr A (o+0)) H'=some (S kv[i].1):=i3;have U:((i:Nat):Int)< ((kv.length:Nat):Int):=by omega
  have hi1:((i:Nat):Int)+((1:Nat):Int)=((i+1:Nat):Int):=by omega
  have a1:kv.take (i+1)=kv.take i++[kv[i]]:=zU a0;have h:=zMP (x:=x) (k:=kv[i].1)
  cases s:x.isPrefixOf kv[i].1 with
  | true=>
   rw[s]at h;obtain⟨q1,q2⟩:x.length<=kv[i].1.length/\kv[i].1.take x.length=x:=by simpa using h.symm
   have u:(kv.take (i+1)).filter (fun p=>x.isPrefixOf p.1)=(kv.take i).filter (fun p=>x.isPrefixOf p.1)++[kv[i]]:=by rw[a1,List.filter_append,List.filter_cons_of_pos (p:=fun p:Nd.Str×Nd.Str=>x.isPrefixOf p.1) s];rfl
   have a4:=List.length_filter_le (fun p=>x.isPrefixOf p.1) (kv.take i);rw[zQ]at a4;obtain⟨H3,A2,b3,y,g3,m3,n3⟩:=box P.ok (.cells (prV kv[i]) 48 2 false);have a5:srcOf 2 (.slice A2 0 1 2) H3=some (1,prV kv[i]):=by simp only[srcOf,g3];rfl
   obtain⟨w',H4,e4,b0,s4,f4⟩:=yX.app (bytes:=32) (m:=1) y.ok (by decide) (yX.mono gw.1 y fun _ _ x=>x) a5 rfl rfl (by omega) (by decide);have N:=P.next;have N3:=y.next
   have b1:dD 48 2 1 [S [],S []] [(0, .agg (prV kv[i]))]=some (.cells (prV kv[i]) 48 2 false,fun A=> .slice A 0 1 2):=rfl;have a:((x.length:Nat):Int)<=((kv[i].1.length:Nat):Int):=by omega
   have C:Q4 (S kv[i].1) none (some (.int .i64 ((x.length:Nat):Int)))=some (S x):=by
    rw[YS _ _ (by omega) (by omega)];simp[q2]
   have V:v8 .eql (S x) (S x)=some (.bool true):=by rw[u5];simp
   refine⟨_,H4, ?_,w',rfl,(P.trans y).fresh s4 f,⟨?_,fun e=> ?_⟩,fun B hB=> ?_⟩
   .simp(maxSteps:=999999)(disch:=omega) only[XG,zBh,eZ,J,j,U,i1,O,wY,a,C,V,i2,hS,b1,b3,e4,hi1,decide_true,Bool.true_and]
   .rw[u,zK,qI];have Y:[kv[i]].flatMap prV=prV kv[i]:=by simp
    rw[Y];exact b0
   .rw[u]at e;simp at e
   .rcases f4 B hB with e | e
    .exact f B e
    .omega
  | false=>
   rw[s]at h;have u:(kv.take (i+1)).filter (fun p=>x.isPrefixOf p.1)=(kv.take i).filter (fun p=>x.isPrefixOf p.1):=by rw[a1,List.filter_append,List.filter_cons_of_neg (by rw[s];decide)];simp
   refine⟨_,H', ?_,w,rfl,P,by rw[u];exact gw,f⟩;by_cases q1:x.length<=kv[i].1.length
   .have q2: ¬kv[i].1.take x.length=x:=fun e=>by simp[q1,e]at h
    have a:((x.length:Nat):Int)<=((kv[i].1.length:Nat):Int):=by omega
    have C:Q4 (S kv[i].1) none (some (.int .i64 ((x.length:Nat):Int)))=some (S (kv[i].1.take x.length)):=by
     rw[YS _ _ (by omega) (by omega)];simp
    have V:v8 .eql (S (kv[i].1.take x.length)) (S x)=some (.bool false):=by rw[u5];simp[q2]
    simp(maxSteps:=999999)(disch:=omega) only[XG,zBh,eZ,J,j,U,i1,O,wY,a,C,V,hi1,decide_true,Bool.true_and]
   .have a: ¬((x.length:Nat):Int)<=((kv[i].1.length:Nat):Int):=by omega
    simp(maxSteps:=999999)(disch:=omega) only[XG,zBh,eZ,J,j,U,i1,O,wY,a,hi1,decide_false,Bool.false_and]) (m+3) _ Z ⟨.nilSlice,rfl,Stp.refl F,⟨.inl (Own.nil ..),fun _=>rfl⟩,fun B hB=>(Blk.nil.1 hB).elim⟩ (by omega)
 obtain⟨q',us,z,e5,w,rfl,P5,g5,f5⟩:=lp;rw[qJ]at g5;have b2:=YW F P5 x1;have a6:yJ (q'+1) (XG (dy (m+3)) (m+3)) [S x, .ptr Gd 0,t, .int .i64 ((0:Nat):Int),w, .int .i64 ((kv.length:Nat):Int)] z=some (.exit 0 [t, .int .i64 ((0:Nat):Int),w],z):=y9 (by simp only[XG,eZ,b2,j,qC]);have a2:(kv.filter fun p=>x.isPrefixOf p.1).length<=60:=Nat.le_trans (List.length_filter_le ..) (by omega);have a3:=XY (dy (m+3)) (m+3) (H:=z) (v:=t) (w:=w) (l:=kv.filter fun p=>x.isPrefixOf p.1) (Rw.prs ga.row P5) g5.row (Nat.lt_of_le_of_lt a2 (by omega)) (Nat.le_trans a2 (by omega));have b4: ∀K:Rs,chk (some (.ptr At 0)) (.ptr At 0) K=K:=fun K=>j8 rfl (by simp[aveq])
 refine⟨z, ?_,p0.trans P5⟩;simp(maxSteps:=999999)(disch:=omega) only[zKb,eZ,a9,Y,y0,b4,e2,qV,nth,e5,a6,zKc,a3,decide_true,Bool.true_and]
theorem walkParts_walk (m:Nat)(hm:800000000<=m){H:AH}(hk:H.ok){v:AV}{l:List Sw}(hv:SwR H v l)(a3: ∀s∈l,s.kd<256){x1 x2 x3:Str} :
  ∃H',f9z (dy (m+3)) (m+3) [v,S x1,S x2,S x3] H=some (.bool true,H')/\Prs H H':=by
 have C: ∀H:AH,z51 (dy (m+3)) (m+3) [] H=some (.bool true,H):=fun _=>rfl
 obtain⟨b,J,hb⟩:=zJV (dy (m+3)) (m+3) (by omega) hv;by_cases hc:b=false/\x1.length<=1000/\x2.length<=1000/\x3.length<=1000
 .obtain⟨rfl,h1,h2,h3⟩:=hc;have t: ¬((1000:Nat):Int)< ((x1.length:Nat):Int):=by omega
  have u: ¬((1000:Nat):Int)< ((x2.length:Nat):Int):=by omega
  have y: ¬((1000:Nat):Int)< ((x3.length:Nat):Int):=by omega
  have hl:=hb rfl;obtain⟨H2,Gd,e2,K⟩:=zJI (m+1) (m+3) (by omega) (by omega) hk hv hl;have z:(AV.str 0 0)=S []:=rfl;by_cases Y:ltS x2 x1=false/\x2≠[]/\(x3=[]\/ltS x3 x2=false)
  .obtain⟨c1,c2,c3⟩:=Y;obtain⟨At,H3,va,y0,e3,p3,L,fa,y3,g3⟩:=aU (m+2) (by omega) K hl x1 x2 (most:=999);obtain⟨F,H4,vb,Z,e4,N,gb,fb,y4,g4⟩:=aU (m+2) (by omega) g3 hl x2 x3 (most:=999);obtain rfl:At=F:=by rw[y3]at Z;simpa using Z
   obtain⟨F,H5,vc,a0,e5,q,gc,fc,y5,g5⟩:=aU (m+2) (by omega) g4 hl x1 x3 (most:=999);obtain rfl:At=F:=by rw[y4]at a0;simpa using a0
   obtain⟨_,_,_,_,_,_,_,_,_,lv,_,_,tx,_,_,hs,a4,p0⟩:=g5.at
   have L1:=hJ x1 x2 (wP l);have L2:=hJ x2 x3 (wP l);have L3:=hJ x1 x3 (wP l);have d1:decide (999< (yO x1 x2 (wP l)).length)=false:=decide_eq_false (by omega);have d2:decide (999< (yO x2 x3 (wP l)).length)=false:=decide_eq_false (by omega);have d3:decide (999< (yO x1 x3 (wP l)).length)=false:=decide_eq_false (by omega);rw[d1]at e3;rw[d2]at e4;rw[d3]at e5;rw[zP (by omega)]at L gb gc;have hj:=YF c1 c2 c3 hs;have N3:=p3.next;have N4:=N.next;have N5:=q.next
   have qb:=Rw.prs gb.row q;obtain⟨w,O,e6,gw,s6,f6⟩:=yX.app (bytes:=32) q.ok (by decide) (yX.mono L (N.trans q) fun _ _ x=>x) qb.srcOf qb.len (cR _) (by omega) (by decide);have a2:(yO x1 x2 (wP l)).length+(yO x2 x3 (wP l)).length=(yO x1 x3 (wP l)).length:=by rw[<-hj,zK]
   rw[a2,<-qI,hj]at gw;have qc:zC0 O vc (yO x1 x3 (wP l)):=Rw.stp gc.row s6 fun B hB h=>by
    have:=fc B hB;have:=yX.lt L h;omega
   have a1:=XY (dy (m+3)) (m+3) (H:=O) (v:=w) (w:=vc) (l:=yO x1 x3 (wP l)) gw.row qc (by omega) (by omega);have g6:GS H Gd l.length (wP l) O:=K.prs (((p3.trans N).trans q).fresh s6 fa);obtain⟨T,U,V⟩:=V4 m hm g6 hl x1 h1;obtain⟨b1,i⟩: ∃b,b= !ltS x2 x1:=⟨_,rfl⟩;obtain⟨b2,j⟩: ∃b,b=decide (x2≠[]):=⟨_,rfl⟩;obtain⟨a,o⟩: ∃b,b= !ltS x3 x2:=⟨_,rfl⟩;obtain⟨f,p⟩: ∃b,b=decide (x3=[]):=⟨_,rfl⟩;have q1:v8 .leq (S x1) (S x2)=some (.bool b1):=by rw[J6,i]
   have q2:v8 .neq (S x2) (S [])=some (.bool b2):=by rw[wK,j]
   have q3:v8 .leq (S x2) (S x3)=some (.bool a):=by rw[J6,o]
   have W:v8 .eql (S x3) (S [])=some (.bool f):=by rw[u5,p]
   have hb:(b1&&b2&&(a||f))=true:=by
    rw[i,j,o,p,c1];rcases c3 with c3 | c3<;>simp[c2,c3]
   clear i j o p;have t0:decide (((0:Nat):Int)≠((0:Nat):Int))=false:=decide_eq_false fun h=>h rfl
   refine⟨T, ?_,V⟩
   cases b1<;>cases b2<;>cases a<;>cases f<;>first
    | (exfalso;revert hb;decide)
    | simp(maxSteps:=999999)(disch:=omega) only[f9z,eZ,J,C,t,u,y,e2,qV,nth,z,q1,q2,q3,W,y0,e3,y3,e4,y4,e5,e6,a1,t0,eq_self,Bool.false_eq_true,if_true,if_false,U,decide_true,decide_false,Bool.true_and,Bool.false_and,Bool.and_true,Bool.and_false,Bool.false_or,Bool.true_or,Bool.or_false,Bool.or_true,Bool.not_true,Bool.not_false]
  .obtain⟨T,U,V⟩:=V4 m hm K hl x1 h1;obtain⟨b1,i⟩: ∃b,b= !ltS x2 x1:=⟨_,rfl⟩;obtain⟨b2,j⟩: ∃b,b=decide (x2≠[]):=⟨_,rfl⟩;obtain⟨a,o⟩: ∃b,b= !ltS x3 x2:=⟨_,rfl⟩;obtain⟨f,p⟩: ∃b,b=decide (x3=[]):=⟨_,rfl⟩;have q1:v8 .leq (S x1) (S x2)=some (.bool b1):=by rw[J6,i]
   have q2:v8 .neq (S x2) (S [])=some (.bool b2):=by rw[wK,j]
   have q3:v8 .leq (S x2) (S x3)=some (.bool a):=by rw[J6,o]
   have W:v8 .eql (S x3) (S [])=some (.bool f):=by rw[u5,p]
   have hb:(b1&&b2&&(a||f))=false:=by
    cases h:(b1&&b2&&(a||f))with
    | false=>rfl
    | true=>
     refine absurd ?_ Y;rw[i,j,o,p]at h;simpa[and_assoc,or_comm]using h
   clear i j o p;refine⟨T, ?_,V⟩
   cases b1<;>cases b2<;>cases a<;>cases f<;>first
    | (exfalso;revert hb;decide)
    | simp(maxSteps:=999999)(disch:=omega) only[f9z,eZ,J,C,t,u,y,e2,qV,nth,z,q1,q2,q3,W,U,decide_true,decide_false,Bool.true_and,Bool.false_and,Bool.and_true,Bool.and_false,Bool.false_or,Bool.true_or,Bool.or_false,Bool.or_true,Bool.not_true,Bool.not_false]
 .refine⟨H, ?_,Stp.refl hk⟩;have z:(AV.str 0 0)=S []:=rfl;by_cases t:((1000:Nat):Int)< ((x1.length:Nat):Int)<;>by_cases u:((1000:Nat):Int)< ((x2.length:Nat):Int)<;>by_cases y:((1000:Nat):Int)< ((x3.length:Nat):Int)<;>cases b<;>first
   | exact absurd ⟨rfl,by omega,by omega,by omega⟩ hc
   | simp(maxSteps:=999999)(disch:=omega) only[f9z,eZ,J,C,t,u,y,z,decide_true,decide_false,Bool.false_or,Bool.true_or,Bool.or_false,Bool.or_true,Bool.not_true,Bool.not_false]
end Go.Eng.Sh
end
section
namespace Go.Proofs.YtaaflpnhdkoaeaaGreat.steps14
open Go.ChangeShapes Go.WideShapes Go.ChangeAt Go.RowKit
theorem zE8: Tryz.prog.cellsOf 113=3:=by kernel_rfl
theorem zKD: Tryz.prog.cellsOf 5=1:=by kernel_rfl
theorem zE9: Tryz.prog.cellsOf 9=1:=by kernel_rfl
abbrev Raw:=Int×ByteArray×ByteArray
def zEs (s:Raw):List Value:=[.int .u8 s.1, .string s.2.1, .string s.2.2]
def zET (s:Raw):Prop:=0<=s.1/\s.1<256
open Go.Eng.Sh (Sw swV SwR)
def zMk (s:Raw):Sw:=⟨s.1.toNat,s.2.1.data.toList,s.2.2.data.toList⟩
theorem zOF (N:Nat){s:Raw}(h:zET s):swV (zMk s)=(zEs s).map (Go.Eng.cellAV N):=by
 have a:((s.1.toNat:Nat):Int)=s.1:=Int.toNat_of_nonneg h.1;simp only[zEs,List.map_cons,List.map_nil,Go.Eng.cellAV_string,swV,zMk,a];rfl
set_option maxRecDepth 100000 in
theorem zMo {H:Type}{enc:TypeId×Value->H}{w:World}{base:Nat}{a:Bool}{j:Nat}{cs:List Value}{x:DataW H×List MemPlace}(h:DataW.trod enc Tryz.prog w base (fun _=>true) a j 113 cs=some x): ∃s:Raw,cs=zEs s/\zET s:=by
 obtain⟨xs,n,_,_,hl,m,f⟩:=DataW.trod_struct Tryz.underlying113 h;rw[zE8]at hl
 match cs,hl with
 | [c0,c1,c2],_=>
  match xs,m with
  | [y0,y1,y2],_=>
   have o:DataW.trod enc Tryz.prog w base (fun _=>true) a n 5 [c0]=some y0:=by
    have this:DataW.trod enc Tryz.prog w base (fun _=>true) a n 5 (List.take (Tryz.prog.cellsOf 5) (List.drop 0 [c0,c1,c2]))=some y0:=f 0 _ rfl;rw[zKD]at this;exact this
   have p:DataW.trod enc Tryz.prog w base (fun _=>true) a n 9 [c1]=some y1:=by
    have this:DataW.trod enc Tryz.prog w base (fun _=>true) a n 9 (List.take (Tryz.prog.cellsOf 9) (List.drop 1 [c0,c1,c2]))=some y1:=f 1 _ rfl;rw[zE9]at this;exact this
   have q:DataW.trod enc Tryz.prog w base (fun _=>true) a n 9 [c2]=some y2:=by
    have this:DataW.trod enc Tryz.prog w base (fun _=>true) a n 9 (List.take (Tryz.prog.cellsOf 9) (List.drop 2 [c0,c1,c2]))=some y2:=f 2 _ rfl;rw[zE9]at this;exact this
   clear f h;obtain⟨t,u,_,i⟩:=DataW.trod_int Tryz.underlying5 o;obtain⟨v,y,_⟩:=DataW.trod_string Tryz.underlying9 p;obtain⟨z,C,_⟩:=DataW.trod_string Tryz.underlying9 q;obtain rfl:=(List.cons.inj u).1;obtain rfl:=(List.cons.inj y).1;obtain rfl:=(List.cons.inj C).1;refine⟨(t,v,z),rfl, ?_⟩;simp only[Lit.wf,IntKind.min,IntKind.max,IntKind.signed,IntKind.bits,zC,zJ]at i;simp only[zET];simp at i;omega
instance:Inhabited Raw:=⟨(0, .empty, .empty)⟩
set_option maxRecDepth 100000 in
theorem steps_in {H:Type}{enc:TypeId×Value->H}{w:World}{base:Nat}{m:Bool}{v:Value}{d:DataW H}{o:List MemPlace}(p: ∃a len cap,v= .slice a len cap)(h:DataW.Trod enc Tryz.prog w base (fun _=>true) m 96 v d o):
  ∃l:List Sw,SwR (Go.Eng.H0 w) (Go.Eng.argAV w.heap.size v) l/\ ∀s∈l,s.kd<256:=by
 obtain⟨z,u,x,rfl⟩:=p;obtain⟨y,q⟩:=h;obtain⟨l,t,i⟩:=Go.Eng.srows_arg (α:=Raw) (k:=3) (by decide) (vals:=zEs) (fun _=>rfl) (good:=zET) Tryz.underlying96 zE8 (fun h=>zMo h) q;refine⟨l.map zMk, ?_,fun s f=> ?_⟩
 .have e:(l.map zMk).flatMap swV=l.flatMap fun s=>(zEs s).map (Go.Eng.cellAV w.heap.size):=by
   have: ∀l:List Raw,(∀s∈l,zET s)->(l.map zMk).flatMap swV=l.flatMap fun s=>(zEs s).map (Go.Eng.cellAV w.heap.size):=by
    intro l
    induction l with
    | nil=>intro _;rfl
    | cons s l ih=>
     intro j;rw[List.map_cons,zW,zW,zOF w.heap.size (j s (zF ..)),ih fun s f=>j s (zE _ f)]
   exact this l i
  show Go.Eng.Rw 3 _ _ (l.map zMk).length _;rw[e,qM];exact t
 .obtain⟨r,hr,rfl⟩:=List.mem_map.1 f;have:=i r hr;simp only[zMk];simp only[zET]at this;omega
end Go.Proofs.YtaaflpnhdkoaeaaGreat.steps14
end
section
namespace Go.Proofs.YtaaflpnhdkoaeaaGreat.walkParts
open Go.ChangeShapes Go.WideShapes Go.ChangeAt Go.RowKit
open Go.ChangeMaps (open_string shut_string)
theorem own:ownKnob Tryz.prog.godebug=none:=by kernel_rfl
theorem laid:laidOutB Tryz.prog=true:=by kernel_rfl
set_option maxRecDepth 100000 in
theorem contract (H:Type)(enc:TypeId×Value->H)(W:World)(base:Nat)(args:Array Value)(y gs:List (DataW H))(U:List MemPlace)
  (a: ∀(j:Nat) t v, Tryz.f9.params[j]? =some t->args[j]? =some v->Value.okWide Tryz.prog W .any base t v)
  (z:DataW.Whole enc Tryz.prog Tryz.f9.params.toList Rows.walkPartsSpec.vars false W args.toList y gs U):
  Calls Tryz.prog 9 args W fun e C=> ∃v,e= .returned v/\Rows.walkPartsSpec.post enc Tryz.prog Tryz.f9 false true false false W args v C:=by
 have i:=z;obtain⟨p,q,u,hV,rfl,a5,a6⟩:=z;have f:DataW.TrodAll enc Tryz.prog W 0 (fun _=>true) true Tryz.f9.params.toList args.toList y p:=u;rw[Tryz.params9]at f a;obtain⟨o,a7,d0,a8,F,q0,a4,rfl,rfl,J,r0⟩:=trodAll_cons f;obtain⟨K,a9,d1,b0,p1,q1,rfl,rfl,rfl,h1,r1⟩:=trodAll_cons r0;obtain⟨v2,b1,d2,b2,p2,q2,rfl,rfl,rfl,h2,r2⟩:=trodAll_cons r1;obtain⟨L,b3,d3,b4,p3,q3,rfl,rfl,rfl,h3,r3⟩:=trodAll_cons r2;obtain⟨rfl,rfl,rfl⟩:=trodAll_nil r3;obtain rfl:args= #[o,K,v2,L]:=by cases args;simp_all
 obtain⟨rfl,rfl⟩:=trodVars_none hV;clear u;have Y: ∀x∈F,x.block<W.heap.size:=fun x hx=>i.lt x (by simp[hx])
 obtain⟨l,hN,a0⟩:=steps14.steps_in (okWide_slice Tryz.underlying96 (a 0 96 o rfl rfl)) J;obtain⟨N,rfl,rfl,rfl,a1⟩:=open_string Tryz.underlying9 (a 1 9 K rfl rfl) h1;obtain⟨O,rfl,rfl,rfl,a2⟩:=open_string Tryz.underlying9 (a 2 9 v2 rfl rfl) h2;obtain⟨T,rfl,rfl,rfl,a3⟩:=open_string Tryz.underlying9 (a 3 9 L rfl rfl) h3;obtain⟨m,hm⟩: ∃m:Nat,800000000<=m:=⟨_,Nat.le_refl _⟩;obtain⟨H',Z,hP⟩:=Go.Eng.Sh.walkParts_walk m hm (Go.Eng.H0_ok W) hN a0 (x1:=N.data.toList) (x2:=O.data.toList) (x3:=T.data.toList);have V:=Go.Eng.calls_param (Go.Eng.Sh.f9z_ok (Go.Eng.Sh.dy_ok (m+3)) (m+3)) W (args:= #[o, .string N, .string O, .string T]) (H':=H') (by
  have e2: ∀s:ByteArray,Go.Eng.argAV W.heap.size (.string s)=Go.Eng.S s.data.toList:=fun s=>Go.Eng.cellAV_string W.heap.size s
  simp only[List.map_cons,List.map_nil,e2];exact Z) (fun A f=>hP.keep A f (fun x=>x))
 refine V.mono fun e C ⟨he,hb⟩=> ?_
 subst he;simp only[List.append_nil]at i;refine⟨_,rfl,_,_,_,[],F++([]++([]++([]++[]))),[],i, ?_, ?_,rfl,hb.frame _,fun h=>by cases h⟩
 .exact trodAll_cons_mk (shut_bool Tryz.underlying4 _) trodAll_mk0
 .exact trodAll_cons_mk (Below.trod laid (by kernel_rfl) (of_decide_eq_true (by kernel_rfl)) J hb Y) (trodAll_cons_mk (shut_string Tryz.underlying9 a1) (trodAll_cons_mk (shut_string Tryz.underlying9 a2) (trodAll_cons_mk (shut_string Tryz.underlying9 a3) trodAll_mk0)))
set_option maxRecDepth 100000 in
theorem lifted (a:Os)(f:a.Started)(H:Type)(enc:TypeId×Value->H):
  ReturnsInHanded {} Tryz.checked a 9 .any (Rows.walkPartsSpec.pre6 enc Tryz.prog Tryz.f9 Rows.walkPartsRow.domain false) (Rows.walkPartsSpec.post enc Tryz.prog Tryz.f9 false true false false):=by
 refine returnsInHanded_of_change (C:= Tryz.checked) own f (by kernel_rfl) Tryz.func9
  (ChangeSpec.witness6 (enc:=enc) (C:= Tryz.checked) false ⟨#[], #[.slice none 0 0, .string .empty, .string .empty, .string .empty],[]⟩ 8 (by kernel_rfl) (by kernel_rfl) (by kernel_rfl) (by kernel_rfl)) ?_
 intro W base args j m h i o _ _;exact contract H enc W base args j m h i o
theorem holds:Rows.WalkPartsSaid:=
 OpenClaim.holds_of_wide 9 Tryz.f9 rfl rfl rfl rfl rfl rfl rfl ⟨rfl,rfl,rfl,rfl,rfl⟩ rfl rfl rfl rfl rfl (by kernel_rfl) Tryz.func9 (by kernel_rfl)
  (of_decide_eq_true (by kernel_rfl)) (by unfold Func.isWrapper;first | (rw[if_pos (by decide+kernel)];kernel_rfl) | (rw[if_neg (by decide+kernel)];exact⟨rfl,rfl⟩))
  (fun f a H enc _=>lifted f a H enc)
end Go.Proofs.YtaaflpnhdkoaeaaGreat.walkParts
namespace Go.Proofs.YtaaflpnhdkoaeaaGreat
theorem walkParts_holds:Rows.WalkPartsSaid:=walkParts.holds
end Go.Proofs.YtaaflpnhdkoaeaaGreat
end

