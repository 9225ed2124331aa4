/- A checked evaluator for the program, and what it tells, part 5: no condition. -/
import Derived.Test.YtaaflpnhdkoaeaaGreatO4
set_option linter.all false
set_option linter.unusedVariables false
set_option linter.unusedSimpArgs false
set_option maxHeartbeats 8000000
set_option maxRecDepth 20000
variable (D:Go.Eng.Dyn)(n:Nat){H B N:Go.Eng.AH}{h:List (Go.Eng.AV×Go.Eng.AV)}{k w t e C:Nat}{i q I:Go.Eng.AV}{A G:Go.Nd.Node}{v P:List Go.Nd.Ptr}{l:List Go.Eng.AV}{p:List (Nat×List Go.Eng.AV)}{s:Go.Nd.Ptr->Option Go.Nd.Node}{E:Go.Nd.Ptr}{F:Nat->Prop}{J:Nat×List Go.Eng.AV}{L:List Go.Nd.Node}{M:Bool}{Q:List (List Go.Eng.AV)}{R:Go.Eng.AObj}{U:UInt8}
section
namespace Go.Eng.Sh
open Go.Nd (Ptr sumL cutOk cutA aU)
theorem zJ8(U:200000000<=n)(hk:H.ok)(h:kN H i A)(I:small A)(y:Nd.shaped ltS A=true)(V:bW A)(hl:A.leaf=false):
  ∃k W Y H',f213 D n [i] H=some (.tuple [W,S (A.keys.getD k []),Y, .int .i64 (0:Nat)],H')/\Prs H H'/\vW H.next H' W (cutA A k)/\vW H.next H' Y (aU A k)/\cutOk A k/\hbnd A k:=by
 have J:=h.node;obtain⟨ks,vs,ps,rfl,K,h2,Z⟩:=h;rw[hl]at J;have c4:=Nd.sumL_ge A.keys;have c5:A.kids.length=A.keys.length+1:=by
  simp only[Nd.shaped,hl,zM,qE,zF,zQ]at y;exact y.2.1.2
 obtain⟨s1,s2,s3⟩:=id I;obtain⟨c1,c2⟩:=id V;obtain⟨H1,H2,H3,H4,A1,A2,A4,b1,b2,b3,e4,i3,s⟩:=zCb D n U hk hl J I;obtain⟨k,H5,e5,p5,⟨k1,k2⟩,kb⟩:=zG9 D n U s.prs.ok (J.prs s.prs) I y V;simp only[hl,zM,qE]at k2;have i5:=s.step p5;obtain⟨H6,e6,i6,t6⟩:=i5.st2 (o:=0) (x:= .bool false) rfl (by simp);obtain⟨H7,e7,t,t7⟩:=i6.st4 (o:=0) (x:= .bool false) rfl (by simp);have m {H':AH} (p:Prs H H'):=K.mono p (fun _ _ x=>x);have m2 {H':AH} (p:Prs H H'):=Z.mono p (fun _ _ x=>x);obtain⟨r8,k8,H8,c8,e8,p8,f8⟩:=zG7 D n t.prs.ok (m t.prs) (by omega) k1 (by omega) A4 t.lt;have i8:=t.step p8;obtain⟨H9,e9,u,t9⟩:=i8.st2 (o:=1) (x:=k8) f8.isCell (by simp);have f9:=f8.stp t9 (by have:=i8.o4;omega);obtain⟨c6,k10,c7,_,M,a0,N,O⟩:=zFV D n u.prs.ok (m u.prs) (by omega) (show k+1< _ by omega) A4 u.lt;have a2:=u.step N;obtain⟨a3,a4,f,t11⟩:=a2.st4 (o:=1) (x:=k10) O.isCell (by simp);have a5:=O.stp t11 (by omega);obtain⟨c9,k12,d0,Q,a6,G,T⟩:=zNO D n f.prs.ok (m2 f.prs) (by omega) (show 0<k+1 by omega) (by omega) A4 f.lt;have v:=f.step G;obtain⟨a7,k13,d1,a8,c13,a9,z,f13⟩:=zNz D n v.prs.ok (m2 v.prs) (by omega) (show k+1< _ by omega) A4 v.lt;have L:vD 3 ps (some (.int .i64 (k+1:Nat))) none none a3=some a7:=by rw[uC (m2 v.prs) (m2 f.prs) (by decide)];exact c13
 have b0:=v.step z;obtain⟨d2,b4,b5,t14⟩:=b0.st2 (o:=3) (x:=k12) T.isCell (by simp);obtain⟨j,b6,q,t15⟩:=b5.st4 (o:=3) (x:=k13) f13.isCell (by simp);simp only[yH]at M Q c13 L;have o4:=q.o4;have h24:=q.o1;have d3:=q.o2;have F8:FrG A4 1 9 j k8 _ _:=(((((f9.prs N).stp t11 (by omega)).prs G).prs z).stp t14 (by omega)).stp t15 (by omega);have b7:FrG A4 1 9 j k10 _ _:=(((a5.prs G).prs z).stp t14 (by omega)).stp t15 (by omega);have b8:FrG A4 3 42 j k12 _ _:=((T.prs z).stp t14 (by omega)).stp t15 (by omega);have b9:FrG A4 3 42 j k13 _ _:=(f13.stp t14 (by omega)).stp t15 (by omega);have na:FrN A4 j k8 .nS k12 (cutA A k):=by
  simp only[cutA,hl,zM,qE];exact⟨F8,FrG.nil ..,b8⟩
 have nb:FrN A4 j k10 .nS k13 (aU A k):=by
  simp only[aU,hl,zM,qE];exact⟨b7,FrG.nil ..,b9⟩
 obtain⟨c0,c3,P,C,F⟩:=zH6 D n q ((m q.prs).row) (fun B hB=>K.lt hB) (show k<A.keys.length by omega) na nb;refine⟨k, .agg [.bool false,k8, .nS,k12], .agg [.bool false,k10, .nS,k13],c0, ?_,P, ?_, ?_,⟨k1,by rw[hl];simp only[zM,qE];omega⟩,kb⟩
 .have t2: ¬(A.keys.length:Int)< ((2:Nat):Int):=by omega
  have t3: ¬(A.keys.length:Int)< ((3:Nat):Int):=by omega
  simp(maxSteps:=999999)(disch:=omega) only[f213,eZ,hl,b1,b2,b3,jW i3.a1,jW s.a1,aH,qA,e4,y,jR s.a1,K.row.lnSl,t2,t3,e5,jR i5.a1,e6,kY (jR i6.a1 0) (zBl _),e7,jR t.a1,c8,e8,e9,jR u.a1,M,a0,a4,jR f.a1,Q,L,a6,kY (jR v.a1 3) (kR Z.row),kY c13 a8,a9,b4,b6,c3]
 .exact⟨⟨k8, .nS,k12,by simp only[cutA,hl,zM,qE],C.k.g,C.v.g,C.p.g⟩,C.fresh (by omega)⟩
 .exact⟨⟨k10, .nS,k13,by simp only[aU,hl,zM,qE],F.k.g,F.v.g,F.p.g⟩,F.fresh (by omega)⟩
end Go.Eng.Sh
end
section
namespace Go.Eng
namespace T
variable {α:Type}
noncomputable def st (t:T α)(n:Nat)(a:α):T α:=(T.set 40 t n a).getD .leaf
end T
theorem Stp.ld1 {S:Nat->Prop}{H H':AH}(s:Stp S H H'){A:Nat}(o:Nat)(h:A<H.next)(a: ¬S A):Eng.ld1 (.ptr A o) H'=Eng.ld1 (.ptr A o) H:=by simp only[Eng.ld1,s.keep A h a]
theorem Stp.ldN {S:Nat->Prop}{H H':AH}(s:Stp S H H'){A:Nat}(o n:Nat)(h:A<H.next)(a: ¬S A):Eng.ldN n (.ptr A o) H'=Eng.ldN n (.ptr A o) H:=by simp only[Eng.ldN,s.keep A h a]
theorem Prs.refl {H:AH}(h:H.ok):Prs H H:=zOJ h
def Rws (k:Nat)(H:AH):List AV->List (Nat×List AV)->Prop
 | [],[]=>True
 | v::vs,r::rs=>(Rw k H v r.1 r.2/\jV r.2=true)/\Rws k H vs rs
 | _,_=>False
theorem Rws.len {k:Nat}{H:AH} : ∀ {vs:List AV} {rs:List (Nat×List AV)},Rws k H vs rs->vs.length=rs.length
 | [],[],_=>rfl
 | _::vs,_::rs,h=>by simp only[zY,Rws.len h.2]
 | [],_::_,h=>h.elim
 | _::_,[],h=>h.elim
theorem Rws.at {k:Nat}{H:AH} : ∀ {vs:List AV} {rs:List (Nat×List AV)} {i:Nat} {x:AV},Rws k H vs rs->vs[i]? =some x-> ∃r,rs[i]? =some r/\Rw k H x r.1 r.2/\jV r.2=true
 | [],[],_,_,_,h=>by simp at h
 | _::vs,r::rs,0,x,h,hx=>by simp only[List.getElem?_cons_zero,zC]at hx;subst hx;exact⟨r,rfl,h.1⟩
 | _::vs,_::rs,i+1,x,h,hx=>by simp only[yW]at hx⊢;exact Rws.at h.2 hx
 | [],_::_,_,_,h,_=>h.elim
 | _::_,[],_,_,h,_=>h.elim
theorem Rws.prs {k:Nat}{H H':AH}(s:Prs H H'): ∀ {vs:List AV} {rs:List (Nat×List AV)},Rws k H vs rs->Rws k H' vs rs
 | [],[],_=>trivial
 | _::vs,_::rs,h=>⟨⟨h.1.1.prs s,h.1.2⟩,Rws.prs s h.2⟩
 | [],_::_,h=>h.elim
 | _::_,[],h=>h.elim
def gP (rs:List (Nat×List AV)):Nat:=(rs.map Prod.fst).sum
def zEo (rs:List (Nat×List AV)):List AV:=rs.flatMap Prod.snd
theorem ZB (h:p[k]? =some J):gP (p.take (k+1))=gP (p.take k)+J.1:=by
 obtain⟨hi,rfl⟩:=qP.1 h;rw[qQ hi];simp only[gP,List.map_append,List.sum_append,yK,List.map_nil,List.sum_cons,List.sum_nil,Nat.add_zero]
theorem zBg (h:p[k]? =some J):zEo (p.take (k+1))=zEo (p.take k)++J.2:=by
 obtain⟨hi,rfl⟩:=qP.1 h;rw[qQ hi];simp only[zEo,jK,qL,List.flatMap_nil,qW]
theorem QC (rs:List (Nat×List AV))(i:Nat):gP (rs.take i)<=gP rs:=by
 have:rs=rs.take i++rs.drop i:=(qV i rs).symm
 conv=>rhs;rw[this]
 simp only[gP,List.map_append,List.sum_append];omega
def Part (k e:Nat)(H:AH)(v:AV)(n:Nat)(l:List AV)(a:Nat):Prop:=
 (a=0/\v= .nS/\n=0/\l=[])\/ ∃A rest,v= .slice A 0 n 1/\A<H.next/\H.h.get A=some (.cells (l++rest) e k true)/\l.length=n*k/\rest.length=(a - n)*k/\n<=a
theorem Part.own (h:Part k w H i t l t):Own k w H i t l:=by
 rcases h with⟨rfl,rfl,_,rfl⟩ | ⟨A,rest,rfl,f,a,hl,hr,_⟩
 .exact zOP _ _ _
 .have:rest=[]:=zR (by rw[hr,Nat.sub_self,Nat.zero_mul]);subst this;rw[qW]at a;exact⟨hl, .inr ⟨A,rfl,f,a⟩⟩
theorem Part.app {bytes:Nat}{m:Nat}{new:List AV}(p:H.ok)(j:0<k)(h:Part k w H i t l e)(s:srcOf k q H=some (m,new))(hm:new.length=m*k)(n:jV new=true)(f:t+m<=e):
  ∃v H',apP w k bytes i q H=some (v,H')/\Part k w H' v (t+m) (l++new) e/\Stp (Blk i) H H'/\H'.next=H.next/\ ∀B,Blk v B->Blk i B:=by
 rcases h with⟨rfl,rfl,rfl,rfl⟩ | ⟨A,rest,rfl,u,C,hl,hr,J⟩
 .obtain rfl:m=0:=by omega
  have:new=[]:=zR (by simpa using hm);subst this;exact⟨.nS,H,by simp[apP,s,n,app1], .inl ⟨rfl,rfl,rfl,rfl⟩,zOJ p,rfl,fun _ x=>x⟩
 .have o:(l++rest).length=e*k:=by rw[zV,hl,hr,<-jB];congr 1;omega
  have y:kS (l++rest) true k 0 1 k=e:=by
   simp only[kS,show((1 % 2).beq 0)=false from rfl,yM,yO,show Nat.beq 0 (1 / 2*k)=true from by simp,qO,zU,kG,o,jF];exact Nat.mul_div_cancel _ j
  have b1:Nat.ble (t+m) e=true:=by rw[qT];exact f
  have F:Nat.blt 0 k=true:=by rw[qD];exact j
  have I:m*k<=rest.length:=by rw[hr];exact yR _ (by omega)
  have z:setAt (l++rest) (0+t*k) new=some (l++new++rest.drop (m*k)):=by
   rw[xL (by rw[o,hm,j7,<-jB];exact yR _ f),j7,hm];congr 1;rw[List.take_append_of_le_length (by omega),zZ (by omega),List.drop_append,<-hl,List.drop_of_length_le (by omega),yE];congr 2;omega
  refine⟨.slice A 0 (t+m) 1,H.put A (.cells (l++new++rest.drop (m*k)) w k true), ?_, .inr ⟨A,rest.drop (m*k),rfl,u,by rw[zOF,if_pos rfl],by rw[zV,hl,hm,jB],by rw[qJ,hr,<-Nat.sub_mul];congr 1;omega,f⟩,(zOJ p).put u _ (.inr (zOG.2 rfl)),rfl,fun B G=>zOG.2 (zOG.1 G)⟩;simp only[apP,s,n,zU,app1,C,zEz,y,b1,F,z,zBp,wR,kI]
theorem Part.stp (h:Part k w H i t l e)(s:Stp F H B)(S: ∀A,Blk i A-> ¬F A):Part k w B i t l e:=by
 rcases h with h | ⟨A,rest,rfl,f,j,hr⟩
 .exact .inl h
 .exact .inr ⟨A,rest,rfl,qI f s.next,by rw[s.keep A f (S A (zOG.2 rfl))];exact j,hr⟩
theorem zFm (z:AV): ∀m:Nat,(rep m [z]).length=m
 | 0=>rfl
 | m+1=>by simp[rep,zFm z m]
theorem zCE (a b c:AV): ∀m:Nat,(rep m [a,b,c]).length=m*3
 | 0=>rfl
 | m+1=>by simp only[rep,zV,zCE a b c m,zY,yS];omega
theorem zK6 {k e bytes m:Nat}{z:List AV}(o:H.ok)(a:0<k)(f:(rep m z).length=m*k)(s:0<m)(hm:m<=1000000000)(hb:bytes<=1000):
  apZ e k bytes z .nS (.int .i64 m) H=some (.slice H.next 0 m 1,H.push (.cells (rep m z) e k true))/\
  vD k (.slice H.next 0 m 1) none (some (.int .i64 (0:Nat))) none (H.push (.cells (rep m z) e k true))=some (.slice H.next 0 0 1)/\
  Part k e (H.push (.cells (rep m z) e k true)) (.slice H.next 0 0 1) 0 [] m:=by
 have b1:Nat.ble (m*bytes) 281474976710656=true:=by
  rw[qT];exact qR (Nat.mul_le_mul hm hb) (by decide)
 have b2:Nat.blt m 4611686018427387904=true:=by rw[qD];omega
 have p:Nat.beq m 0=false:=by rw[yA];intro h;have:=Nat.eq_of_beq_eq_true h;omega
 have i:kS (rep m z) true k 0 1 k=m:=by
  simp only[kS,show((1 % 2).beq 0)=false from rfl,yM,yO,show Nat.beq 0 (1 / 2*k)=true from by simp,qO,zU,kG,f,jF];exact Nat.mul_div_cancel _ a
 have j:Nat.blt 0 k=true:=by rw[qD];exact a
 refine⟨?_, ?_, .inr ⟨H.next,rep m z,rfl,Nat.lt_succ_self _,zOB _ _,by simp,by simpa using f,by omega⟩⟩
 .show apZ e k bytes z .nS (.int .i64 (Int.ofNat m)) H=_;simp only[apZ,b1,b2,qO,zU,app1,show m.beq 0=false from p,yM,vR,cG hm hb,cT,yE,aN o,kI]
 .have q:=kQ .i64 (z:=((0:Nat):Int)) (by omega);simp only[vD,kX,q,zOB,j,zU];simp[YQ,i,kI,show Nat.ble 0 m=true from by rw[qT];omega,show Nat.ble 0 0=true from rfl,show Nat.beq 1 0=false from rfl]
end Go.Eng
namespace Go.Eng.Sh
open Go.Nd (Ptr sumL cutOk cutA aU)
theorem zIQ (D:Dyn)(n m:Nat)(hm:m<=1000000000)(a:H.ok):
  ∃v H',f180 D n [.nS, .int .i64 (m:Nat)] H=some (v,H')/\Prs H H'/\Part 1 9 H' v 0 [] m/\ ∀B,Blk v B->H.next<=B:=by
 have h:zMz X 117 .nS=some (.int .i64 (0:Nat)):=rfl;have i:lnSl .nS=some (.int .i64 (0:Nat)):=rfl;have s:vD 1 .nS none (some (.int .i64 (0:Nat))) none H=some .nS:=rfl;have j: ¬(m:Int)< ((0:Nat):Int):=by omega
 by_cases hp:m=0
 .subst hp;refine⟨.nS,H, ?_,zOJ a, .inl ⟨rfl,rfl,rfl,rfl⟩,fun B f=>(zOO.1 f).elim⟩;simp(disch:=omega) only[f180,zGr,zDc,eZ,j,h,i,Int.sub_zero,yY,Int.sub_self]
 .obtain⟨t,u,p⟩:=zK6 (k:=1) (e:=9) (bytes:=16) (m:=m) (z:=[.str 0 0]) a (by decide) (by rw[zFm];omega) (by omega) hm (by decide);have o:(m:Int) - (((0:Nat):Int) - ((0:Nat):Int))=(m:Int):=by omega
  have q:((0:Nat):Int)< (m:Int):=by omega
  refine⟨_,_, ?_,(zOJ a).push _,p,fun B f=>by rw[zOG.1 f];exact zP _⟩;simp(disch:=omega) only[f180,zGr,zDc,eZ,j,h,i,s,o,q,t,u]
theorem zIR (D:Dyn)(n m:Nat)(hm:m<=1000000000)(a:H.ok):
  ∃v H',f214 D n [.nS, .int .i64 (m:Nat)] H=some (v,H')/\Prs H H'/\Part 3 42 H' v 0 [] m/\ ∀B,Blk v B->H.next<=B:=by
 have h:zMz X 50 .nS=some (.int .i64 (0:Nat)):=rfl;have i:lnSl .nS=some (.int .i64 (0:Nat)):=rfl;have u:vD 3 .nS none (some (.int .i64 (0:Nat))) none H=some .nS:=rfl;have j: ¬(m:Int)< ((0:Nat):Int):=by omega
 by_cases hp:m=0
 .subst hp;refine⟨.nS,H, ?_,zOJ a, .inl ⟨rfl,rfl,rfl,rfl⟩,fun B f=>(zOO.1 f).elim⟩;simp(disch:=omega) only[f214,zGo,zDb,eZ,j,h,i,Int.sub_zero,yY,Int.sub_self]
 .obtain⟨o,q,p⟩:=zK6 (k:=3) (e:=42) (bytes:=24) (m:=m) (z:=[.int .i64 (.ofNat 0), .int .i64 (.ofNat 0), .int .u64 (.ofNat 0)]) a (by decide) (by rw[zCE]) (by omega) hm (by decide);have s:(m:Int) - (((0:Nat):Int) - ((0:Nat):Int))=(m:Int):=by omega
  have t:((0:Nat):Int)< (m:Int):=by omega
  refine⟨_,_, ?_,(zOJ a).push _,p,fun B f=>by rw[zOG.1 f];exact zP _⟩;simp only[Int.ofNat_eq_natCast]at o q;simp(disch:=omega) only[f214,zGo,zDb,eZ,j,h,i,u,s,t,o,q]
theorem catS1(q:Rw 1 H i l.length l)(h:Rws 1 H l p)(hb:gP p<=1000000000)(hl:l.length<=1000000000)(a:Nat)(s:l.length<a):
  kL a (KQ D n) [i, .int .i64 (0:Nat),i, .int .i64 (l.length:Nat), .int .i64 (0:Nat)] H=some (.exit 0 [i, .int .i64 (gP p:Nat)],H):=by
 have f:=h.len;refine fK (fun v=>[i, .int .i64 (gP (p.take v):Nat),i, .int .i64 (l.length:Nat), .int .i64 (v:Nat)]) l.length ?_ ?_ a s
 .intro v hi;obtain⟨vs,x,t,u,y⟩:=q.ld1 hi;obtain⟨r,z,C,J⟩:=h.at y;have o:((v:Nat):Int)< (l.length:Int):=by omega
  have K:=ZB z;have G:=QC p v;have I:=QC p (v+1);have j: ¬((gP (p.take v):Nat):Int)+((r.1:Nat):Int)< ((0:Nat):Int):=by omega
  have F:((gP (p.take (v+1)):Nat):Int)=((gP (p.take v):Nat):Int)+((r.1:Nat):Int):=by omega
  rw[F];simp(disch:=omega) only[KQ,XV,eZ,o,t,u,C.lnSl,j,yH]
 .intro m;refine kD ?_;have:p.take l.length=p:=by rw[f];exact jG
  simp only[KQ,eZ,yY,this]
theorem catS2(J:H.ok)(K:Rw 1 H i l.length l)(h:Rws 1 H l p)(hl:l.length<=1000000000)
   (L:Part 1 9 H q 0 [] (gP p)) (z: ∀B,Blk q B-> ¬Blk i B) (C: ∀B,Blk q B-> ∀x∈l,¬Blk x B) (j:Nat) (M:l.length<j):
  ∃a H',kL j (KP D n) [q,i, .int .i64 (l.length:Nat), .int .i64 (0:Nat)] H=some (.exit 2 [a],H')/\Stp (Blk q) H H'/\Part 1 9 H' a (gP p) (zEo p) (gP p)/\ ∀B,Blk a B->Blk q B:=by
 have y:=h.len;obtain⟨m,o,H',k1,a,rfl,k3,k4,k5⟩:=fJ (b:=KP D n) l.length (fun v o H'=> ∃a,o=[a,i, .int .i64 (l.length:Nat), .int .i64 (v:Nat)]/\Stp (Blk q) H H'/\Part 1 9 H' a (gP (p.take v)) (zEo (p.take v)) (gP p)/\ ∀B,Blk a B->Blk q B) (fun v o Z hi ⟨w1,hus,hs,hp,hB⟩=>by
  subst hus;obtain⟨vs,x,N,O,s⟩:=(K.stp hs (fun A f rs=>z A rs f)).ld1 hi;obtain⟨r,t,u,Q⟩:=h.at s;have S:x∈l:=List.mem_of_getElem? s;have F:=u.stp hs (fun A f rs=>C A rs x S f);have G:((v:Nat):Int)< (l.length:Int):=by omega
  have Y:=QC p (v+1);have I:=ZB t;obtain⟨T,U,V,q2,W,n2,b2⟩:=hp.app (bytes:=16) hs.ok (by decide) F.srcOf u.1 Q (by omega);rw[<-I,<-zBg t]at q2;refine⟨_,U, ?_,T,rfl,hs.trans (W.mono fun A _ f=>hB A f),q2,fun B hb=>hB B (b2 B hb)⟩;simp(disch:=omega) only[KP,eZ,G,N,O,V,yH]) j _ H ⟨q,rfl,zOJ J,L,fun _ x=>x⟩ M
 rw[y,jG]at k4;exact⟨a,H',k1.trans (kD (by simp only[KP,eZ,yY])),k3,k4,k5⟩
theorem zHj(s:H.ok){v:AV}{vs:List AV}{rs:List (Nat×List AV)}(j:Rw 1 H v vs.length vs)(h:Rws 1 H vs rs)(hb:gP rs<=1000000000)(hl:vs.length<=1000000000)(o:vs.length<n)
  (p: ∀B,Blk v B->B<H.next) (q: ∀x∈vs,∀B,Blk x B->B<H.next):
  ∃w H',f132 D n [v] H=some (w,H')/\Prs H H'/\Own 1 9 H' w (gP rs) (zEo rs)/\ ∀B,Blk w B->H.next<=B:=by
 obtain⟨J,K,t,f,q1,i⟩:=zIQ D n (gP rs) hb s;obtain⟨u,y,z,C,q2,F⟩:=catS2 D n f.ok (j.prs f) (h.prs f) hl q1 (fun B a m=>by have:=i B a;have:=p B m;omega) (fun B a x G m=>by have:=i B a;have:=q x G B m;omega) n o;have I:=catS1 D n j h hb hl n o;refine⟨u,y, ?_,f.fresh C i,q2.own,fun B a=>i B (F B a)⟩;simp only[f132,eZ,j.lnSl,I,zKs,t,z,zGz]
theorem catP1(q:Rw 1 H i l.length l)(h:Rws 3 H l p)(hb:gP p<=1000000000)(hl:l.length<=1000000000)(a:Nat)(s:l.length<a):
  kL a (KM D n) [i, .int .i64 (0:Nat),i, .int .i64 (l.length:Nat), .int .i64 (0:Nat)] H=some (.exit 0 [i, .int .i64 (gP p:Nat)],H):=by
 have f:=h.len;refine fK (fun v=>[i, .int .i64 (gP (p.take v):Nat),i, .int .i64 (l.length:Nat), .int .i64 (v:Nat)]) l.length ?_ ?_ a s
 .intro v hi;obtain⟨vs,x,t,u,y⟩:=q.ld1 hi;obtain⟨r,z,C,J⟩:=h.at y;have o:((v:Nat):Int)< (l.length:Int):=by omega
  have K:=ZB z;have G:=QC p v;have I:=QC p (v+1);have j: ¬((gP (p.take v):Nat):Int)+((r.1:Nat):Int)< ((0:Nat):Int):=by omega
  have F:((gP (p.take (v+1)):Nat):Int)=((gP (p.take v):Nat):Int)+((r.1:Nat):Int):=by omega
  rw[F];simp(disch:=omega) only[KM,XT,eZ,o,t,u,C.lnSl,j,yH]
 .intro m;refine kD ?_;have:p.take l.length=p:=by rw[f];exact jG
  simp only[KM,eZ,yY,this]
theorem catP2(J:H.ok)(K:Rw 1 H i l.length l)(h:Rws 3 H l p)(hl:l.length<=1000000000)
   (L:Part 3 42 H q 0 [] (gP p)) (z: ∀B,Blk q B-> ¬Blk i B) (C: ∀B,Blk q B-> ∀x∈l,¬Blk x B) (j:Nat) (M:l.length<j):
  ∃a H',kL j (KL D n) [q,i, .int .i64 (l.length:Nat), .int .i64 (0:Nat)] H=some (.exit 2 [a],H')/\Stp (Blk q) H H'/\Part 3 42 H' a (gP p) (zEo p) (gP p)/\ ∀B,Blk a B->Blk q B:=by
 have y:=h.len;obtain⟨m,o,H',k1,a,rfl,k3,k4,k5⟩:=fJ (b:=KL D n) l.length (fun v o H'=> ∃a,o=[a,i, .int .i64 (l.length:Nat), .int .i64 (v:Nat)]/\Stp (Blk q) H H'/\Part 3 42 H' a (gP (p.take v)) (zEo (p.take v)) (gP p)/\ ∀B,Blk a B->Blk q B) (fun v o Z hi ⟨w1,hus,hs,hp,hB⟩=>by
  subst hus;obtain⟨vs,x,N,O,s⟩:=(K.stp hs (fun A f rs=>z A rs f)).ld1 hi;obtain⟨r,t,u,Q⟩:=h.at s;have S:x∈l:=List.mem_of_getElem? s;have F:=u.stp hs (fun A f rs=>C A rs x S f);have G:((v:Nat):Int)< (l.length:Int):=by omega
  have Y:=QC p (v+1);have I:=ZB t;obtain⟨T,U,V,q2,W,n2,b2⟩:=hp.app (bytes:=24) hs.ok (by decide) F.srcOf u.1 Q (by omega);rw[<-I,<-zBg t]at q2;refine⟨_,U, ?_,T,rfl,hs.trans (W.mono fun A _ f=>hB A f),q2,fun B hb=>hB B (b2 B hb)⟩;simp(disch:=omega) only[KL,eZ,G,N,O,V,yH]) j _ H ⟨q,rfl,zOJ J,L,fun _ x=>x⟩ M
 rw[y,jG]at k4;exact⟨a,H',k1.trans (kD (by simp only[KL,eZ,yY])),k3,k4,k5⟩
theorem zHk(s:H.ok){v:AV}{vs:List AV}{rs:List (Nat×List AV)}(j:Rw 1 H v vs.length vs)(h:Rws 3 H vs rs)(hb:gP rs<=1000000000)(hl:vs.length<=1000000000)(o:vs.length<n)
  (p: ∀B,Blk v B->B<H.next) (q: ∀x∈vs,∀B,Blk x B->B<H.next):
  ∃w H',f178 D n [v] H=some (w,H')/\Prs H H'/\Own 3 42 H' w (gP rs) (zEo rs)/\ ∀B,Blk w B->H.next<=B:=by
 obtain⟨J,K,t,f,q1,i⟩:=zIR D n (gP rs) hb s;obtain⟨u,y,z,C,q2,F⟩:=catP2 D n f.ok (j.prs f) (h.prs f) hl q1 (fun B a m=>by have:=i B a;have:=p B m;omega) (fun B a x G m=>by have:=i B a;have:=q x G B m;omega) n o;have I:=catP1 D n j h hb hl n o;refine⟨u,y, ?_,f.fresh C i,q2.own,fun B a=>i B (F B a)⟩;simp only[f178,eZ,j.lnSl,I,zKm,t,z,zGt]
end Go.Eng.Sh
end
section
namespace Go.Eng
theorem hp:(∀(o:AObj) (f:Nat->AV) (H:AH) (K:AV->AH->Rs),H.ok->bA (some (o,f)) H K=K (f H.next) (H.push o))/\
  (∀(H:AH) (A o:Nat) (x:AObj),A<H.next->ld1 (.ptr A o) (H.push x)=ld1 (.ptr A o) H)/\
  (∀(H:AH) (A o n:Nat) (x:AObj),A<H.next->ldN n (.ptr A o) (H.push x)=ldN n (.ptr A o) H)/\
  (∀(l:List AV) (o n:Nat) (a:AV),o=0->n=l.length->(uW l o n).map AV.agg=some (.agg l))/\
  (∀(a b c d:AV),uW [a,b,c,d] 0 4=some [a,b,c,d])/\
  (∀(l:List AV),(some l).map AV.agg=some (.agg l))/\
  (∀(vs:List AV) (i:Nat),jS (.tuple vs) i=vs[i]?):=
 ⟨fun o f H K h=>kV h o f K,fun H A o x h=>zBX o x h,fun H A o n x h=>zLD o n x h,fun l o n _ j m=>by subst j;subst m;rw[kZ _ _ _ (.inr (by omega)),yD,jG];rfl,fun _ _ _ _=>rfl,fun _=>rfl,fun vs i=>by simp only[jS,ZH]⟩
end Go.Eng
end
section
namespace Go.Nd
def partedN (lt:Str->Str->Bool)(a:Node)(sep:Str)(b:Node):Bool:=
 mayK sep&&(a.leaf==b.leaf)&&(decide (a.keys.length=0)||lt (a.keys.getD (a.keys.length - 1) []) sep)&&(decide (b.keys.length=0)||lt sep (b.keys.getD 0 [])||(a.leaf&&decide (sep=b.keys.getD 0 [])))
end Go.Nd
namespace Go.Eng.Sh
open Go.Nd (Ptr sumL cutOk cutA aU partedN)
theorem zFC(hk:H.ok){sep:Str}(h:fD H i A)(h':fD H q G)(hs:small A)(Z:small G):
  ∃H',f212 D n [i,S sep,q] H=some (.bool (partedN ltS A sep G),H')/\Prs H H':=by
 obtain⟨ks,vs,J,rfl,V,h2,h3⟩:=h;obtain⟨I,vs',M,rfl,k1,k2,k3⟩:=h';have a2:=Nd.sumL_ge A.keys;have a1:=Nd.sumL_ge G.keys;obtain⟨s1,s2,s3⟩:=hs;obtain⟨a3,a4,a5⟩:=Z;have P:Prs H ((H.push (.cells [.bool A.leaf,ks,vs,J] 119 1 false)).push (.cells [.bool G.leaf,I,vs',M] 119 1 false)):=((zOJ hk).push _).push _;have u:=V.lnSl;have C:=k1.lnSl;have q1:=V.prs P;have q2:=k1.prs P;generalize f:(H.push (.cells [.bool A.leaf,ks,vs,J] 119 1 false)).push (.cells [.bool G.leaf,I,vs',M] 119 1 false)=H2 at P q1 q2;have p: ∀o,ld1 (.ptr H.next o) H2=[.bool A.leaf,ks,vs,J][o]? :=fun o=>by rw[<-f,zBX _ _ (by rw[zOC];omega),UB]
 have j: ∀o,ld1 (.ptr (H.push (.cells [.bool A.leaf,ks,vs,J] 119 1 false)).next o) H2=[.bool G.leaf,I,vs',M][o]? :=fun o=>by rw[<-f,UB]
 refine⟨H2, ?_,P⟩;have a0: ∀x y:Bool,(!(x==y))=false->x=y:=fun x y=>by cases x<;>cases y<;>simp
 cases hm:Nd.mayK sep with
 | false=>simp(disch:=first | assumption | omega | (simp only[zOC,zOD];omega) | (repeat(first | assumption | apply AH.ok.push))) only[f212,eZ,hp,f,wF,hm,partedN]
 | true=>
  cases hl:(A.leaf==G.leaf)with
  | false=>simp(disch:=first | assumption | omega | (simp only[zOC,zOD];omega) | (repeat(first | assumption | apply AH.ok.push))) only[f212,eZ,hp,f,wF,hm,partedN,p,j,hl]
  | true=>
   have e:G.leaf=A.leaf:=by revert hl;cases A.leaf<;>cases G.leaf<;>simp
   rw[e]at j f;simp only[partedN,hm,hl,Bool.true_and];rw[e];clear hl e a0;generalize A.leaf=la at*
   have t:(la==la)=true:=by simp
   have Y:
     (∃Q,G.keys.length≠0->(∀κ (z:Int),z=((0:Nat):Int)->gY 1 I (.int κ z)=some Q)/\Eng.ld1 Q H2=some (S (G.keys.getD 0 []))):=by
    by_cases h0:G.keys.length=0
    .exact⟨.nP,fun h=>absurd h0 h⟩
    .obtain⟨w,F,a⟩:=q2.at (i:=0) (by omega);refine⟨w,fun _=>⟨F, ?_⟩⟩;rw[vF (by omega)];exact a
   obtain⟨Q,U⟩:=Y;by_cases W:A.keys.length=0
   .have s: ¬((0:Nat):Int)< (A.keys.length:Int):=by omega
    simp only[W,decide_true,Bool.true_or,Bool.true_and];by_cases hb:G.keys.length=0
    .have m:(G.keys.length:Int)=((0:Nat):Int):=by omega
     simp only[hb,decide_true,Bool.true_or];simp(disch:=first | assumption | omega | (simp only[zOC,zOD];omega) | (repeat(first | assumption | apply AH.ok.push))) only[f212,eZ,hp,f,wF,hm,p,j,t,u,C,s,m]
    .have m: ¬(G.keys.length:Int)=((0:Nat):Int):=by omega
     obtain⟨F,a⟩:=U hb;simp only[hb,decide_false,Bool.false_or]
     cases N:ltS sep (G.keys.getD 0 [])<;>cases la<;>simp(disch:=first | assumption | omega | (simp only[zOC,zOD];omega) | (repeat(first | assumption | apply AH.ok.push))) only[f212,eZ,hp,f,wF,hm,p,j,t,u,C,s,m,F,a,N]
   .have s:((0:Nat):Int)< (A.keys.length:Int):=by omega
    obtain⟨w,T,K⟩:=q1.at (i:=A.keys.length - 1) (by omega);rw[<-vF (d:=[])]at K;have L:(A.keys.length:Int) - ((1:Nat):Int)=((A.keys.length - 1:Nat):Int):=by omega
    simp only[W,decide_false,Bool.false_or]
    cases O:ltS (A.keys.getD (A.keys.length - 1) []) sep with
    | false=>simp(disch:=first | assumption | omega | (simp only[zOC,zOD];omega) | (repeat(first | assumption | apply AH.ok.push))) only[f212,eZ,hp,f,wF,hm,p,j,t,u,C,s,L,T,K,O]
    | true=>
     by_cases hb:G.keys.length=0
     .have m:(G.keys.length:Int)=((0:Nat):Int):=by omega
      simp only[hb,decide_true,Bool.true_or];simp(disch:=first | assumption | omega | (simp only[zOC,zOD];omega) | (repeat(first | assumption | apply AH.ok.push))) only[f212,eZ,hp,f,wF,hm,p,j,t,u,C,s,m,L,T,K,O]
     .have m: ¬(G.keys.length:Int)=((0:Nat):Int):=by omega
      obtain⟨F,a⟩:=U hb;simp only[hb,decide_false,Bool.false_or]
      cases N:ltS sep (G.keys.getD 0 [])<;>cases la<;>simp(disch:=first | assumption | omega | (simp only[zOC,zOD];omega) | (repeat(first | assumption | apply AH.ok.push))) only[f212,eZ,hp,f,wF,hm,p,j,t,u,C,s,m,L,T,K,O,F,a,N]
end Go.Eng.Sh
end
section
namespace Go.Eng
theorem box (f:H.ok)(o:AObj): ∃H' A,(∀(a:Nat->AV) (K:AV->AH->Rs),bA (some (o,a)) H K=K (a A) H')/\Prs H H'/\H'.h.get A=some o/\H.next<=A/\A<H'.next:=
 ⟨H.push o,H.next,fun a K=>kV f o a K,(zOJ f).push o,zOB _ _,zP _,by rw[zOC];omega⟩
theorem zNk (e:TypeId)(z:AV)(a:isCell i=true)(f:isCell q=true)(h:isCell z=true):Q0 e 1 2 [z] [(0,i),(1,q)]=some (.cells [i,q] e 1 false,fun A=> .slice A 0 2 4):=by
 simp only[Q0,fM,rep,wE a,wE f];rfl
theorem row3 (e:TypeId)(z:AV)(a:isCell i=true)(f:isCell q=true)(h:isCell I=true):Q0 e 1 3 [z] [(0,i),(1,q),(2,I)]=some (.cells [i,q,I] e 1 false,fun A=> .slice A 0 3 6):=by
 simp only[Q0,fM,rep,wE a,wE f,wE h];rfl
theorem zLg (e:TypeId)(z:AV)(a:isCell i=true):Q0 e 1 1 [z] [(0,i)]=some (.cells [i] e 1 false,fun A=> .slice A 0 1 2):=by
 simp only[Q0,fM,rep,wE a];rfl
theorem Rw.lit {cc:Nat}(a:H.ok)(h:H.h.get k=some (.cells l w 1 false)):Rw 1 H (.slice k 0 l.length cc) l.length l:=
 ⟨by simp, .inr (.inr ⟨k,0,cc,l,w,1,false,rfl,h,a.lt h,by simp,by simp⟩)⟩
end Go.Eng
namespace Go.Eng.Sh
open Go.Nd (Ptr sumL cutOk cutA aU partedN dP)
theorem uG {e:TypeId}(h:H.h.get k=some (.cells l e 1 false))(hl:l.length=4):ldN 4 (.ptr k 0) H=some (.agg l):=by
 rw[jW h,kZ _ _ _ (.inr (by omega)),yD,zZ (by omega)];rfl
def nd0:Nd.Node:=⟨false,[],[],[]⟩
theorem Q8.zero (H0 H:AH):Q8 H0 H (.agg [.bool false, .nS, .nS, .nS]) nd0:=
 ⟨_,_,_,rfl,zOP ..,zOP ..,zOP ..,fun B a=>by rcases a with h | h | h<;>exact(zOO.1 h).elim,fun B a=>(zOO.1 a).elim,fun B a=>(zOO.1 a).elim⟩
def joinOk (a:Nd.Node)(sep:Str)(b:Nd.Node):Bool:=Nd.shaped ltS a&&Nd.shaped ltS b&&partedN ltS a sep b
theorem zJb{cc:Nat}{l m:List Str}(A:H.ok)(j:H.h.get k=some (.cells [i,q] 117 1 false))(x:Strs H i l)(s:Strs H q m)(hb:l.length+m.length<=1000000000)(u:100<=n):
  ∃w H',f132 D n [.slice k 0 2 cc] H=some (w,H')/\Prs H H'/\Own 1 9 H' w (l++m).length ((l++m).map S)/\ ∀B,Blk w B->H.next<=B:=by
 obtain⟨w,H',e,p,o,f⟩:=zHj D n A (v:= .slice k 0 2 cc) (vs:=[i,q]) (rs:=[(l.length,l.map S),(m.length,m.map S)]) (Rw.lit A j) ⟨⟨x,vP _⟩,⟨s,vP _⟩,trivial⟩ (by simpa[gP]using hb) (by simp) (by simp;omega)
  (fun B a=>by rw[zOG.1 a];exact A.lt j) (fun z t B a=>by
   simp only[zO,List.not_mem_nil,or_false]at t;rcases t with rfl | rfl
   .exact zOR x a
   .exact zOR s a)
 exact⟨w,H',e,p,by simpa[gP,zEo]using o,f⟩
theorem zOf{cc:Nat}{l m A:List Str}(x:H.ok)(j:H.h.get k=some (.cells [i,q,I] 117 1 false))(y:Strs H i l)(s:Strs H q m)(t:Strs H I A)(hb:l.length+m.length+A.length<=1000000000)(C:100<=n):
  ∃w H',f132 D n [.slice k 0 3 cc] H=some (w,H')/\Prs H H'/\Own 1 9 H' w (l++(m++A)).length ((l++(m++A)).map S)/\ ∀B,Blk w B->H.next<=B:=by
 obtain⟨w,H',e,p,o,f⟩:=zHj D n x (v:= .slice k 0 3 cc) (vs:=[i,q,I]) (rs:=[(l.length,l.map S),(m.length,m.map S),(A.length,A.map S)]) (Rw.lit x j) ⟨⟨y,vP _⟩,⟨s,vP _⟩,⟨t,vP _⟩,trivial⟩ (by simp[gP];omega) (by simp) (by simp;omega)
  (fun B a=>by rw[zOG.1 a];exact x.lt j) (fun I u B a=>by
   simp only[zO,List.not_mem_nil,or_false]at u;rcases u with rfl | rfl | rfl
   .exact zOR y a
   .exact zOR s a
   .exact zOR t a)
 exact⟨w,H',e,p,by simpa[gP,zEo]using o,f⟩
theorem conP2{cc:Nat}{m:List Ptr}(A:H.ok)(j:H.h.get k=some (.cells [i,q] 50 1 false))(x:bY H i P)(s:bY H q m)(hb:P.length+m.length<=1000000000)(u:100<=n):
  ∃w H',f178 D n [.slice k 0 2 cc] H=some (w,H')/\Prs H H'/\Own 3 42 H' w (P++m).length ((P++m).flatMap jX)/\ ∀B,Blk w B->H.next<=B:=by
 obtain⟨w,H',e,p,o,f⟩:=zHk D n A (v:= .slice k 0 2 cc) (vs:=[i,q]) (rs:=[(P.length,P.flatMap jX),(m.length,m.flatMap jX)]) (Rw.lit A j) ⟨⟨x,uZ _⟩,⟨s,uZ _⟩,trivial⟩ (by simpa[gP]using hb) (by simp) (by simp;omega)
  (fun B a=>by rw[zOG.1 a];exact A.lt j) (fun z t B a=>by
   simp only[zO,List.not_mem_nil,or_false]at t;rcases t with rfl | rfl
   .exact zOR x a
   .exact zOR s a)
 exact⟨w,H',e,p,by simpa[gP,zEo]using o,f⟩
theorem fQ:uO [(0,1),(1,1),(2,1),(3,1)] [.bool false, .nS, .nS, .nS] []=some (.agg [.bool false, .nS, .nS, .nS]):=rfl
theorem zHp (x:Bool)(f:isCell i=true)(hb:isCell q=true):uO [(0,1),(1,1),(2,1),(3,1)] [.bool false, .nS, .nS, .nS] [(0, .bool x),(1,i),(2,q)]=some (.agg [.bool x,i,q, .nS]):=by
 simp only[uO,fM,zK2,wE f,wE hb];rfl
theorem zMt (f:isCell i=true)(hb:isCell q=true):uO [(0,1),(1,1),(2,1),(3,1)] [.bool false, .nS, .nS, .nS] [(1,i),(3,q)]=some (.agg [.bool false,i, .nS,q]):=by
 simp only[uO,fM,zK2,wE f,wE hb];rfl
theorem zFZ(hn:200000000<=n)(hk:H.ok){sep:Str}(h:fD H i A)(h':fD H q G)(hs:small A)(c0:small G):
  ∃u H',f176 D n [i,S sep,q] H=some (.tuple [u, .int .i64 (if joinOk A sep G then 0 else 1:Nat)],H')/\Prs H H'/\Q8 H H' u (if joinOk A sep G then dP A sep G else nd0):=by
 have i0:=h;have c4:=h';obtain⟨ks,vs,ps,rfl,h1,h2,h3⟩:=h;obtain⟨la,a5⟩: ∃la,la=A.leaf:=⟨_,rfl⟩;rw[<-a5]at i0⊢;obtain⟨a6,vs',c5,rfl,k1,k2,k3⟩:=h';have d8:=Nd.sumL_ge A.keys;have d6:=Nd.sumL_ge G.keys;have d9:=Nd.sumL_ge A.vals;have d7:=Nd.sumL_ge G.vals;have s0:=hs;have c6:=c0;obtain⟨s1,s2,s3⟩:=hs;obtain⟨e0,e1,e2⟩:=c0;obtain⟨H1,A1,b1,p1,g1,m1,n1⟩:=box hk (.cells [.bool la,ks,vs,ps] 119 1 false);obtain⟨H2,A2,b2,p2,g2,m2,n2⟩:=box p1.ok (.cells [.bool G.leaf,a6,vs',c5] 119 1 false);obtain⟨H3,N,b3,p3,g3,m3,n3⟩:=box p2.ok (.cells [.bool false, .nS, .nS, .nS] 119 1 false);have Z:Prs H H3:=(p1.trans p2).trans p3;have U:=p3.get p2.ok (p2.get p1.ok g1);have d1:=p3.get p2.ok g2;obtain⟨H4,e4,p4⟩:=bE D n Z.ok (i0.prs Z) s0 hn;have O:=Z.trans p4;have d2:=p4.get Z.ok U;have a0:=p4.get Z.ok d1;have c7:=p4.get Z.ok g3;have a1: ∀ {t:AH} {l:List AV},Prs H t->t.h.get N=some (.cells [.bool false, .nS, .nS, .nS] 119 1 false)->l.length=4->jV l=true-> ∃v,stN 4 (.ptr N 0) (.agg l) t=some (jU,v)/\Prs H v/\Stp (fun B=>B=N) t v/\ldN 4 (.ptr N 0) v=some (.agg l):=fun {t l} px hg hl hc=>by
  obtain⟨v,e,g,s,_⟩:=kE px.ok hg hl hc;have e':stN 4 (.ptr N 0) (.agg l) t=some (jU,v):=e;exact⟨v,e',px.fresh s (fun B f=>by omega),s,by rw[jW g,kZ _ _ _ (.inr (by omega)),yD,zZ (by omega)];rfl⟩
 cases c1:Nd.shaped ltS A with
 | false=>
  obtain⟨v,C,F,_,b⟩:=a1 (l:=[.bool false, .nS, .nS, .nS]) O c7 rfl rfl;refine⟨.agg [.bool false, .nS, .nS, .nS],v, ?_,F, ?_⟩
  rotate_left
  .simp only[joinOk,c1,Bool.false_and,zM,qE];exact Q8.zero _ _
  .simp only[joinOk,c1,Bool.false_and,zM,qE];simp(disch:=omega) only[f176,eZ,b1,b2,b3,jW U,aH,qA,e4,c1,fQ,C,b]
 | true=>
 obtain⟨H5,e5,p5⟩:=bE D n O.ok (c4.prs O) c6 hn;have K:=O.trans p5;have a2:=p5.get O.ok d2;have a3:=p5.get O.ok a0;have c8:=p5.get O.ok c7
 cases c2:Nd.shaped ltS G with
 | false=>
  obtain⟨v,C,F,_,b⟩:=a1 (l:=[.bool false, .nS, .nS, .nS]) K c8 rfl rfl;refine⟨.agg [.bool false, .nS, .nS, .nS],v, ?_,F, ?_⟩
  rotate_left
  .simp only[joinOk,c2,Bool.false_and,Bool.and_false,zM,qE];exact Q8.zero _ _
  .simp only[joinOk,c2,Bool.false_and,Bool.and_false,zM,qE];simp(disch:=omega) only[f176,eZ,b1,b2,b3,jW U,jW a0,aH,qA,e4,e5,c1,c2,fQ,C,b]
 | true=>
 obtain⟨H6,e6,p6⟩:=zFC D n K.ok (sep:=sep) (i0.prs K) (c4.prs K) s0 c6;have Q:=K.trans p6;have V:=p6.get K.ok a2;have L:=p6.get K.ok a3;have a7:=p6.get K.ok c8
 cases c3:partedN ltS A sep G with
 | false=>
  obtain⟨v,C,F,_,b⟩:=a1 (l:=[.bool false, .nS, .nS, .nS]) Q a7 rfl rfl;refine⟨.agg [.bool false, .nS, .nS, .nS],v, ?_,F, ?_⟩
  rotate_left
  .simp only[joinOk,c3,Bool.false_and,Bool.and_false,zM,qE];exact Q8.zero _ _
  .simp only[joinOk,c3,Bool.false_and,Bool.and_false,zM,qE];simp(disch:=omega) only[f176,eZ,b1,b2,b3,jW U,jW a0,jW a2,jW a3,aH,qA,e4,e5,e6,c1,c2,c3,fQ,C,b]
 | true=>
 have hj:joinOk A sep G=true:=by simp only[joinOk,c1,c2,c3,qO]
 simp only[hj,if_true]
 cases la with
 | true=>
  obtain⟨H7,A7,b7,j,g7,m7,n7⟩:=box Q.ok (.cells [ks,a6] 117 1 false);have T:=Q.trans j;obtain⟨H8,A8,b8,w,g8,m8,n8⟩:=box T.ok (.cells [vs,vs'] 117 1 false);have y:=T.trans w;obtain⟨w9,H9,e9,z,o9,f9⟩:=zJb D n (cc:=4) y.ok (w.get T.ok g7) (h1.prs y) (k1.prs y) (by omega) (by omega);have m:=y.trans z;obtain⟨M,c9,a8,I,J,W⟩:=zJb D n (cc:=4) m.ok (z.get y.ok g8) (h2.prs m) (k2.prs m) (by omega) (by omega);have Y:=m.trans I;have up {t:AH} {o:AObj} {a:Nat} (g:H6.h.get a=some o) (p:Prs H6 t):=p.get Q.ok g;have a9:Prs H6 H9:=(j.trans w).trans z;obtain⟨v,C,F,sy,b⟩:=a1 (l:=[.bool true,w9,M, .nS]) Y (up a7 (a9.trans I)) rfl (by simp only[jV,o9.row.isCell,J.row.isCell];rfl);have d3:N<H8.next:=by have:=p4.next;have:=p5.next;have:=p6.next;have:=j.next;have:=w.next;omega
  have n9:=z.next
  refine⟨.agg [.bool true,w9,M, .nS],v, ?_,F, ?_⟩
  rotate_left
  .have:dP A sep G=⟨true,A.keys++G.keys,A.vals++G.vals,[]⟩:=by simp only[dP,<-a5,if_true]
   rw[this];refine⟨w9,M, .nS,rfl,(o9.mono I (fun _ _ x=>x)).mono sy (fun B f e=>by have:=f9 B f;omega),J.mono sy (fun B f e=>by have:=W B f;omega),zOP ..,fun B f=> ?_,fun B f=>⟨fun h=> ?_,fun h=>(zOO.1 h).elim⟩,fun B f h=>(zOO.1 h).elim⟩
   .have:=y.next
    rcases f with h | h | h
    .have:=f9 B h;omega
    .have:=W B h;omega
    .exact(zOO.1 h).elim
   .have:=W B h;have:=zOR o9.row f;omega
  .simp(disch:=omega) only[f176,eZ,b1,b2,b3,jW U,jW a0,jW a2,jW a3,aH,qA,e4,e5,e6,c1,c2,c3,jR V,jR L,jR (up V j),jR (up L j),zNk 117 .nS h1.isCell k1.isCell rfl,zNk 117 .nS h2.isCell k2.isCell rfl,b7,b8,e9,
    kY (jR (up V a9) 2) (kR h2),kY (jR (up L a9) 2) (kR k2),a8,zHp _ o9.row.isCell J.row.isCell,C,b]
 | false=>
  obtain⟨H7,A7,b7,j,g7,m7,n7⟩:=box Q.ok (.cells [S sep] 9 1 false);have T:=Q.trans j;obtain⟨H8,A8,b8,w,g8,m8,n8⟩:=box T.ok (.cells [ks, .slice A7 0 1 2,a6] 117 1 false);have y:=T.trans w;obtain⟨H9,A9,b9,z,g9,m9,n9⟩:=box y.ok (.cells [ps,c5] 50 1 false);have m:=y.trans z;have d0:Strs H9 (.slice A7 0 1 2) [sep]:=Rw.lit (cc:=2) m.ok (zOM (w.trans z) T.ok g7);obtain⟨M,c9,a8,I,J,W⟩:=zOf D n (cc:=6) m.ok (z.get y.ok g8) (h1.prs m) d0 (k1.prs m) (by simp only[zY,yS];omega) (by omega);have Y:=m.trans I;obtain⟨b0,e3,d4,b4,b5,b6⟩:=conP2 D n (cc:=4) Y.ok (I.get m.ok g9) (h3.prs Y) (k3.prs Y) (by omega) (by omega);have d5:=Y.trans b4;have up {t:AH} {o:AObj} {a:Nat} (g:H6.h.get a=some o) (p:Prs H6 t):=p.get Q.ok g;have a4:Prs H6 c9:=((j.trans w).trans z).trans I;obtain⟨v,C,F,sy,b⟩:=a1 (l:=[.bool false,M, .nS,b0]) d5 (up a7 (a4.trans b4)) rfl (by simp only[jV,J.row.isCell,b5.row.isCell];rfl);have d3:N<H9.next:=by have:=p4.next;have:=p5.next;have:=p6.next;have:=j.next;have:=w.next;have:=z.next;omega
  have e7:=I.next
  refine⟨.agg [.bool false,M, .nS,b0],v, ?_,F, ?_⟩
  rotate_left
  .have:dP A sep G=⟨false,A.keys++([sep]++G.keys),[],A.kids++G.kids⟩:=by simp only[dP,<-a5,zM,qE]
   rw[this];refine⟨M, .nS,b0,rfl,(J.mono b4 (fun _ _ x=>x)).mono sy (fun B f e=>by have:=W B f;omega),zOP ..,b5.mono sy (fun B f e=>by have:=b6 B f;omega),fun B f=> ?_,fun B f=>⟨fun h=>(zOO.1 h).elim,fun h=> ?_⟩,fun B f=>(zOO.1 f).elim⟩
   .have:=m.next
    rcases f with h | h | h
    .have:=W B h;omega
    .exact(zOO.1 h).elim
    .have:=b6 B h;omega
   .have:=b6 B h;have:=zOR J.row f;omega
  .simp(disch:=omega) only[f176,eZ,b1,b2,b3,jW U,jW a0,jW a2,jW a3,aH,qA,e4,e5,e6,c1,c2,c3,jR V,jR L,jR (up L j),jR (up V (j.trans w)),jR (up L (j.trans w)),zLg 9 (.str 0 0) (YK sep),b7,
    row3 117 .nS h1.isCell (show isCell (.slice A7 0 1 2)=true from rfl) k1.isCell,zNk 50 .nS h3.isCell k3.isCell rfl,b8,b9,a8,
    kY (jR (up V a4) 3) (kR h3),kY (jR (up L a4) 3) (kR k3),d4,zMt J.row.isCell b5.row.isCell,C,b]
end Go.Eng.Sh
end
section
namespace Go.Nd
end Go.Nd
namespace Go.Eng.Sh
open Go.Nd (Ptr sumL cutOk cutA aU)
theorem kN.cells (h:kN H i A): ∃l,i= .agg l/\l.length=4/\jV l=true:=by
 obtain⟨ks,vs,m,rfl,f,v,j⟩:=h;exact⟨_,rfl,rfl,Q7 _ _ _ _ f.row.isCell v.row.isCell j.row.isCell⟩
theorem kN.zero (H:AH):kN H (.agg [.bool false, .nS, .nS, .nS]) nd0:=
 ⟨_,_,_,rfl, .inl (zOP ..), .inl (zOP ..), .inl (zOP ..)⟩
theorem vW.zero (N:Nat)(H:AH):vW N H (.agg [.bool false, .nS, .nS, .nS]) nd0:=
 ⟨kN.zero H,fun B a=>by rcases xB.1 a with h | h | h<;>exact(zOO.1 h).elim⟩
theorem cutNo(J:200000000<=n)(K:H.ok)(h:fD H i A)(L:small A)(j: ¬(Nd.shaped ltS A=true/\bW A)):
  ∃H',f213 D n [i] H=some (.tuple [.agg [.bool false, .nS, .nS, .nS],S [], .agg [.bool false, .nS, .nS, .nS], .int .i64 (1:Nat)],H')/\Prs H H':=by
 have C:=h;obtain⟨ks,vs,Y,rfl,M,Z,h3⟩:=h;obtain⟨m,o⟩: ∃m,m=A.leaf:=⟨_,rfl⟩;rw[<-o]at C⊢;obtain⟨H1,H2,H3,N,A1,O,A4,b1,b2,t,u,x,f⟩:=zCb D n J K o.symm C L;have o1:=f.o1;have o2:=f.o2;have o4:=f.o4;have l4:=f.lt;obtain⟨F,Q,T,s5⟩:=f.all2 (l':=[.bool false, .nS, .nS, .nS]) rfl rfl;obtain⟨G,U,v,s6⟩:=T.all4 (l':=[.bool false, .nS, .nS, .nS]) rfl rfl;have p:stN 4 (.ptr O 0) (.agg [.bool false, .nS, .nS, .nS]) N=some (jU,F):=Q;have q:stN 4 (.ptr A4 0) (.agg [.bool false, .nS, .nS, .nS]) F=some (jU,G):=U;have z:=M.lnSl;refine⟨G, ?_,v.prs⟩;have y:(AV.str 0 0)=S []:=rfl
 cases c1:Nd.shaped ltS A with
 | false=>
  simp(maxSteps:=999999)(disch:=omega) only[f213,eZ,b1,b2,t,jW x.a1,jW f.a1,aH,qA,u,c1,fQ,p,q,jW v.a2,jW v.a4,y]
 | true=>
  have j: ¬bW A:=fun V=>j ⟨c1,V⟩
  by_cases t2:A.keys.length<2
  .have s:(A.keys.length:Int)< ((2:Nat):Int):=by omega
   simp(maxSteps:=999999)(disch:=omega) only[f213,eZ,b1,b2,t,jW x.a1,jW f.a1,aH,qA,u,c1,jR f.a1,z,s,fQ,p,q,jW v.a2,jW v.a4,y]
  .have s: ¬(A.keys.length:Int)< ((2:Nat):Int):=by omega
   have W:m=false:=by
    cases m with
    | false=>rfl
    | true=>exact absurd ⟨by omega, .inl o.symm⟩ j
   have t3:A.keys.length<3:=by
    rcases Nat.lt_or_ge A.keys.length 3 with h | h
    .exact h
    .exact absurd ⟨by omega, .inr h⟩ j
   have I:(A.keys.length:Int)< ((3:Nat):Int):=by omega
   subst W;simp(maxSteps:=999999)(disch:=omega) only[f213,eZ,b1,b2,t,jW x.a1,jW f.a1,aH,qA,u,c1,jR f.a1,z,s,I,fQ,p,q,jW v.a2,jW v.a4,y]
theorem zOc(m:200000000<=n)(o:H.ok)(h:kN H i A)(q:small A):
  ∃v sep j e H',f213 D n [i] H=some (.tuple [v,S sep,j, .int .i64 ((e:Nat):Int)],H')/\Prs H H'/\
   ((e=0/\ ∃k,Nd.shaped ltS A=true/\cutOk A k/\hbnd A k/\sep=A.keys.getD k []/\vW H.next H' v (cutA A k)/\vW H.next H' j (aU A k))\/
    (e=1/\sep=[]/\ ¬(Nd.shaped ltS A=true/\bW A)/\v= .agg [.bool false, .nS, .nS, .nS]/\j= .agg [.bool false, .nS, .nS, .nS])):=by
 by_cases f:Nd.shaped ltS A=true/\bW A
 .cases hl:A.leaf with
  | true=>
   obtain⟨k,v,j,H',e,p,s,t,ok,u⟩:=zMm D n m o h q f.1 f.2 hl;exact⟨v,_,j,0,H',e,p, .inl ⟨rfl,k,f.1,ok,u,rfl,s,t⟩⟩
  | false=>
   obtain⟨k,v,j,H',e,p,s,t,ok,u⟩:=zJ8 D n m o h q f.1 f.2 hl;exact⟨v,_,j,0,H',e,p, .inl ⟨rfl,k,f.1,ok,u,rfl,s,t⟩⟩
 .obtain⟨H',e,p⟩:=cutNo D n m o h.node q f;exact⟨_,[],_,1,H',e,p, .inr ⟨rfl,rfl,f,rfl,rfl⟩⟩
end Go.Eng.Sh
end
section
namespace Go.Nd
open Go.Eng (ltS vI xA QN dJ cX)
abbrev Kvs:=List (Str×Str)
def lookP (k:Str):Kvs->Option Str
 | []=>none
 | (a,b)::l=>if a=k then some b else lookP k l
def putP (k v:Str):Kvs->Kvs
 | []=>[(k,v)]
 | (a,b)::l=>if a=k then(k,v)::l else if ltS a k then(a,b)::putP k v l else(k,v)::(a,b)::l
def delP (k:Str):Kvs->Kvs
 | []=>[]
 | (a,b)::l=>if a=k then l else(a,b)::delP k l
def Srt:Kvs->Prop
 | []=>True
 | (a,_)::l=>(∀p∈l,ltS a p.1=true)/\Srt l
theorem rising_cons {a:Str}{l:List Str} :rising ltS (a::l)=true↔(∀x∈l,ltS a x=true)/\rising ltS l=true:=by
 induction l generalizing a with
 | nil=>simp[rising]
 | cons b l ih=>
  rw[rising,zF];constructor
  .rintro⟨h1,h2⟩
   refine⟨fun x f=> ?_,h2⟩;rcases zO.1 f with rfl | f
   .exact h1
   .exact xA h1 ((ih.1 h2).1 x f)
  .rintro⟨h1,h2⟩
   exact⟨h1 b (zJ ..),h2⟩
theorem X2: ∀l:Kvs,Srt l↔rising ltS (l.map Prod.fst)=true
 | []=>by simp[Srt,rising]
 | (a,b)::l=>by
  rw[yK,rising_cons,Srt,X2 l];simp only[qM,forall_exists_index,and_imp];constructor
  .rintro⟨h1,h2⟩;exact⟨fun x p hp e=>e▸h1 p hp,h2⟩
  .rintro⟨h1,h2⟩;exact⟨fun p hp=>h1 _ p hp rfl,h2⟩
theorem look_none {k:Str} : ∀ {l:Kvs},(∀p∈l,p.1≠k)->lookP k l=none
 | [],_=>rfl
 | (a,b)::l,h=>by
  rw[lookP,if_neg (h (a,b) (zJ ..))];exact look_none fun p hp=>h p (zE _ hp)
theorem mem_put {k v:Str}{p:Str×Str} : ∀ {l:Kvs},p∈putP k v l->p=(k,v)\/p∈l
 | [],h=>by simpa[putP]using h
 | (a,b)::l,h=>by
  simp only[putP]at h;split at h
  .rcases zO.1 h with h | h
   .exact .inl h
   .exact .inr (zE _ h)
  .split at h
   .rcases zO.1 h with h | h
    .exact .inr (h▸zJ ..)
    .rcases mem_put h with h | h
     .exact .inl h
     .exact .inr (zE _ h)
   .rcases zO.1 h with h | h
    .exact .inl h
    .exact .inr h
theorem srt_put (k v:Str): ∀ {l:Kvs},Srt l->Srt (putP k v l)
 | [],_=>⟨by simp,trivial⟩
 | (a,b)::l,h=>by
  simp only[putP];split
  .rename_i e;subst e;exact h
  .rename_i j;split
   .rename_i f;refine⟨fun p hp=> ?_,srt_put k v h.2⟩;rcases mem_put hp with rfl | hp
    .exact f
    .exact h.1 p hp
   .rename_i f;have i:ltS k a=true:=by
     cases m:ltS k a with
     | true=>rfl
     | false=>exact absurd (QN (by simpa using f) m) j
    refine⟨fun p hp=> ?_,h⟩;rcases zO.1 hp with rfl | hp
    .exact i
    .exact xA i (h.1 p hp)
theorem mem_del {k:Str}{p:Str×Str} : ∀ {l:Kvs},p∈delP k l->p∈l
 | [],h=>h
 | (a,b)::l,h=>by
  simp only[delP]at h;split at h
  .exact zE _ h
  .rcases zO.1 h with h | h
   .exact h▸zJ ..
   .exact zE _ (mem_del h)
theorem srt_del (k:Str): ∀ {l:Kvs},Srt l->Srt (delP k l)
 | [],_=>trivial
 | (a,b)::l,h=>by
  simp only[delP];split
  .exact h.2
  .exact⟨fun p hp=>h.1 p (mem_del hp),srt_del k h.2⟩
def whereN (n:Node)(key:Str):Nat:=(n.keys.filter fun k=>ltS k key||(!n.leaf&&decide (k=key))).length
theorem whereN_le (n:Node)(key:Str):whereN n key<=n.keys.length:=List.length_filter_le _ _
def leafOf (l:Kvs):Node:=⟨true,l.map Prod.fst,l.map Prod.snd,[]⟩
theorem where_cons {a b key:Str}{l:Kvs}(h:Srt ((a,b)::l)):whereN (leafOf ((a,b)::l)) key=if ltS a key then whereN (leafOf l) key+1 else 0:=by
 simp only[whereN,leafOf,yK,Bool.not_true,Bool.false_and,Bool.or_false]
 cases hl:ltS a key with
 | true=>simp[hl]
 | false=>
  rw[List.filter_cons,hl];simp only[zM,qE];rw[List.length_eq_zero_iff,List.filter_eq_nil_iff];intro x i f;obtain⟨p,hp,rfl⟩:=qM.1 i;have:=xA (h.1 p hp) f;rw[hl]at this;cases this
def hereN (n:Node)(key:Str):Bool:=decide (whereN n key<n.keys.length)&&decide (n.keys.getD (whereN n key) []=key)
theorem here_look (key:Str): ∀ {l:Kvs},Srt l->hereN (leafOf l) key=(lookP key l).isSome
 | [],_=>by simp[hereN,leafOf,lookP]
 | (a,b)::l,h=>by
  have f:=here_look key h.2;have j:(leafOf ((a,b)::l)).keys=a::(leafOf l).keys:=rfl;simp only[hereN,where_cons h,lookP,j]at f⊢
  cases hl:ltS a key with
  | true=>
   have i:a≠key:=cX hl;simp only[if_true,if_neg i,zY,Nat.add_lt_add_iff_right,List.getD_cons_succ];exact f
  | false=>
   simp only[zM,qE,zY,List.getD_cons_zero,Nat.zero_lt_succ,decide_true,Bool.true_and];by_cases e:a=key
   .simp[e]
   .rw[if_neg e,look_none]
    .simp[e]
    .intro p hp m;have:=h.1 p hp;rw[m,hl]at this;cases this
def zIt (n:Node)(key value:Str):Node:=
 if hereN n key then⟨true,n.keys,n.vals.set (whereN n key) value,[]⟩
 else⟨true,n.keys.take (whereN n key)++[key]++n.keys.drop (whereN n key),n.vals.take (whereN n key)++[value]++n.vals.drop (whereN n key),[]⟩
def zMU (n:Node)(key:Str):Node:=⟨true,n.keys.take (whereN n key)++n.keys.drop (whereN n key+1),n.vals.take (whereN n key)++n.vals.drop (whereN n key+1),[]⟩
theorem put_leaf (key value:Str): ∀ {l:Kvs},Srt l->zIt (leafOf l) key value=leafOf (putP key value l)
 | [],_=>by simp[zIt,hereN,leafOf,putP,whereN]
 | (a,b)::l,h=>by
  have f:=put_leaf key value h.2;have j:=here_look key h;have i:=here_look key h.2;simp only[zIt,j,i,where_cons h,lookP,putP]at f⊢;by_cases e:a=key
  .subst e;simp[vI,leafOf]
  .rw[if_neg e,if_neg e]
   cases hl:ltS a key with
   | true=>
    simp only[if_true];have g: ∀(q:Kvs),leafOf ((a,b)::q)=⟨true,a::(leafOf q).keys,b::(leafOf q).vals,[]⟩:=fun q=>rfl
    rw[g (putP key value l),<-f,g l];split
    .simp
    .simp
   | false=>
    have:lookP key l=none:=look_none fun p hp m=>by have:=h.1 p hp;rw[m,hl]at this;cases this
    rw[this];simp[leafOf]
theorem del_leaf (key:Str): ∀ {l:Kvs},Srt l->hereN (leafOf l) key=true->zMU (leafOf l) key=leafOf (delP key l)
 | [],_,h=>by simp[hereN,leafOf]at h
 | (a,b)::l,h,hr=>by
  have i:=here_look key h;have f:=here_look key h.2;rw[i]at hr;simp only[zMU,where_cons h,delP];by_cases e:a=key
  .subst e;simp[vI,leafOf]
  .simp only[lookP,if_neg e]at hr;rw[if_neg e];have hl:ltS a key=true:=by
    cases hl:ltS a key with
    | true=>rfl
    | false=>
     have:lookP key l=none:=look_none fun p hp j=>by have:=h.1 p hp;rw[j,hl]at this;cases this
     rw[this]at hr;cases hr
   have m:=del_leaf key h.2 (f.trans hr);simp only[hl,if_true];have g: ∀(q:Kvs),leafOf ((a,b)::q)=⟨true,a::(leafOf q).keys,b::(leafOf q).vals,[]⟩:=fun q=>rfl
   rw[g (delP key l),<-m,g l];simp[zMU]
def getN (n:Node)(key:Str):Option Str:=if n.leaf then lookP key (n.keys.zip n.vals)else none
theorem get_leaf (key:Str)(l:Kvs):getN (leafOf l) key=lookP key l:=by
 simp only[getN,leafOf,if_true];congr 1
 induction l with
 | nil=>rfl
 | cons p l ih=>simp[ih]
theorem leaf_shaped {l:Kvs}(h:Srt l)(a: ∀p∈l,mayK p.1=true/\p.2.length<=200):shaped ltS (leafOf l)=true:=by
 simp only[shaped,leafOf,if_true,zF,zQ,yC,qM,forall_exists_index,and_imp,jH,true_and];exact⟨⟨fun x p hp e=>e▸(a p hp).1,(X2 l).1 h⟩,fun x p hp e=>e▸(a p hp).2⟩
theorem look_zip {key:Str} : ∀ {ks vs:List Str} {i:Nat},(∀j,j<i->ks.getD j []≠key)->i<ks.length->ks.getD i []=key->lookP key (ks.zip vs)=vs[i]?
 | [],_,_,_,h,_=>by simp at h
 | k::ks,[],i,_,_,_=>by simp[lookP]
 | k::ks,v::vs,0,_,_,h=>by simp at h;simp[lookP,h]
 | k::ks,v::vs,i+1,h0,h1,h2=>by
  have a:k≠key:=by simpa using h0 0 (by omega)
  have f:=look_zip (key:=key) (ks:=ks) (vs:=vs) (i:=i) (fun j m=>by simpa using h0 (j+1) (by omega)) (by simpa using h1) (by simpa using h2);simp only[List.zip_cons_cons,lookP,if_neg a,yW,f]
theorem look_zip0 {key:Str} : ∀ {ks vs:List Str},(∀j,j<ks.length->ks.getD j []≠key)->lookP key (ks.zip vs)=none
 | [],_,_=>by simp[lookP]
 | k::ks,[],_=>by simp[lookP]
 | k::ks,v::vs,h0=>by
  have a:k≠key:=by simpa using h0 0 (by simp)
  have f:=look_zip0 (key:=key) (ks:=ks) (vs:=vs) (fun j h=>by simpa using h0 (j+1) (by simp;omega));simp only[List.zip_cons_cons,lookP,if_neg a,f]
end Go.Nd
namespace Go.Eng.Sh
open Go.Nd (Ptr sumL cutOk cutA aU whereN getN lookP)
theorem zC4 {f:Str->Bool}(l:List Str)(h:k<l.length):((l.take (k+1)).filter f).length=((l.take k).filter f).length+if f (l.getD k [])then 1 else 0:=by
 rw[qQ h,jN,zV,vF h];congr 1
 cases a:f l[k]<;>simp[a]
theorem YR(Q:200000000<=n)(J:H.ok){key:Str}(h:fD H i A)(K:small A):
  ∃H',f79 D n [i,S key] H=some (.int .i64 (whereN A key:Nat),H')/\Prs H H':=by
 obtain⟨ks,vs,L,rfl,z,T,U⟩:=h;obtain⟨f,y⟩: ∃f,f=A.leaf:=⟨_,rfl⟩;rw[<-y];have O:=Nd.sumL_ge A.keys;obtain⟨V,W,Y⟩:=K;obtain⟨u,C,b1,F,q,Z,n1⟩:=box J (.cells [.bool f,ks,vs,L] 119 1 false);have M:=z.prs F;have N:kL n (zAL D n) [S key, .ptr C 0, .int .i64 (0:Nat),ks, .int .i64 (A.keys.length:Nat), .int .i64 (0:Nat)] u=some (.exit 0 [.int .i64 (whereN A key:Nat)],u):=by
  refine fK (fun v=>[S key, .ptr C 0, .int .i64 ((((A.keys.take v).filter fun k=>ltS k key||(!A.leaf&&decide (k=key))).length:Nat):Int),ks, .int .i64 (A.keys.length:Nat), .int .i64 (v:Nat)]) A.keys.length ?_ ?_ n (by omega)
  .intro v hi;obtain⟨p,s,j⟩:=M.at hi;rw[<-vF (d:=[])]at j;have o:((v:Nat):Int)< (A.keys.length:Int):=by omega
   rw[zC4 A.keys hi,<-y];have I:((A.keys.take v).filter fun k=>ltS k key||(!f&&decide (k=key))).length<=A.keys.length:=qR (List.length_filter_le _ _) (by rw[qC];omega);generalize((A.keys.take v).filter fun k=>ltS k key||(!f&&decide (k=key))).length=c at I;generalize A.keys.getD v []=x at j
   cases t:ltS x key with
   | true=>simp(disch:=omega) only[zAL,zC7,eZ,o,s,j,t,yH]
   | false=>
    cases f with
    | true=>simp(disch:=omega) only[zAL,zC7,eZ,o,s,j,t,jR q,yH,Nat.add_zero]
    | false=>
     by_cases G:x=key
     .subst G;simp(disch:=omega) only[zAL,zC7,eZ,o,s,j,t,jR q,yH]
     .simp(disch:=omega) only[zAL,zC7,eZ,o,s,j,t,jR q,G,yH,Nat.add_zero]
  .intro m;refine kD ?_;rw[jG];simp only[zAL,eZ,yY,whereN]
 refine⟨u, ?_,F⟩;simp only[f79,eZ,b1,jR q,z.lnSl,N,zNU]
theorem zIO{l:List Str}{key:Str}(h:Strs H i l)(hl:l.length<=1000000000)(K:l.length<n):
  ∃z:Int,f124 D n [i,S key] H=some (.int .i64 z,H)/\((∃v:Nat,z=v/\v<l.length/\l.getD v []=key/\ ∀j,j<v->l.getD j []≠key)\/(z= -1/\ ∀j,j<l.length->l.getD j []≠key)):=by
 have F:Fin (kL n (YD D n) [i,S key, .int .i64 (l.length:Nat), .int .i64 (0:Nat)] H) fun x H'=>H'=H/\((∃v:Nat,x= .ret (.int .i64 (v:Nat))/\v<l.length/\l.getD v []=key/\ ∀j,j<v->l.getD j []≠key)\/(x= .exit 0 []/\ ∀j,j<l.length->l.getD j []≠key)):=by
  refine Fin.loop (fun k u H'=>H'=H/\ ∃v:Nat,u=[i,S key, .int .i64 (l.length:Nat), .int .i64 (v:Nat)]/\v<=l.length/\k=l.length - v/\ ∀j,j<v->l.getD j []≠key) ?_ n l.length _ H ⟨rfl,0,rfl,by omega,by omega,fun j f=>by omega⟩ (by omega)
  rintro k u H' ⟨rfl,v,rfl,hi,rfl,f⟩
  by_cases s:v<l.length
  .obtain⟨p,y,m⟩:=h.at s;rw[<-vF (d:=[])]at m;have a:(v:Int)< (l.length:Int):=by omega
   by_cases o:l.getD v []=key
   .rw[o]at m;have e:YD D n [i,S key, .int .i64 (l.length:Nat), .int .i64 (v:Nat)] H'=some (.ret (.int .i64 (v:Nat)),H'):=by
     simp(disch:=omega) only[YD,eZ,a,y,m]
    rw[e];exact⟨_,_,rfl,rfl, .inl ⟨v,rfl,s,o,f⟩⟩
   .have C: ¬key=l.getD v []:=fun e=>o e.symm
    have e:YD D n [i,S key, .int .i64 (l.length:Nat), .int .i64 (v:Nat)] H'=some (.norm [i,S key, .int .i64 (l.length:Nat), .int .i64 (v+1:Nat)],H'):=by
     simp(disch:=omega) only[YD,eZ,a,y,m,C,yH]
    rw[e];refine⟨_,_,rfl,l.length - (v+1),by omega,rfl,v+1,rfl,by omega,rfl,fun j t=> ?_⟩;rcases Nat.lt_succ_iff_lt_or_eq.1 t with h | rfl
    .exact f j h
    .exact o
  .have a: ¬(v:Int)< (l.length:Int):=by omega
   refine⟨.exit 0 [],H', ?_,rfl, .inr ⟨rfl,fun j t=>f j (by omega)⟩⟩;simp only[YD,eZ,a]
 obtain⟨x,H',e,rfl,G⟩:=F;rcases G with⟨v,rfl,q,I,J⟩ | ⟨rfl,q⟩
 .refine⟨v, ?_, .inl ⟨v,rfl,q,I,J⟩⟩;simp only[f124,eZ,h.lnSl,e]
 .refine⟨-1, ?_, .inr ⟨rfl,q⟩⟩;simp only[f124,eZ,h.lnSl,e,zKu];rfl
theorem zIV(T:200000000<=n)(C:H.ok){key:Str}(h:fD H i A)(F:small A):
  ∃H',f78 D n [i,S key] H=some (.tuple [S ((getN A key).getD []), .bool (getN A key).isSome],H')/\Prs H H':=by
 obtain⟨ks,vs,G,rfl,I,o,U⟩:=h;obtain⟨j,y⟩: ∃j,j=A.leaf:=⟨_,rfl⟩;simp only[getN];rw[<-y];have O:=Nd.sumL_ge A.keys;have Q:=Nd.sumL_ge A.vals;obtain⟨V,W,Y⟩:=F;obtain⟨J,Z,b1,q,m,m1,n1⟩:=box C (.cells [.bool j,ks,vs,G] 119 1 false);have s:(AV.str 0 0)=S []:=rfl;refine⟨J, ?_,q⟩
 cases j with
 | false=>simp only[f78,eZ,b1,jR m,s,Option.getD_none,Option.isSome_none]
 | true=>
  obtain⟨z,t,K⟩:=zIO D n (key:=key) (I.prs q) (by omega) (by omega);rcases K with⟨v,rfl,hi,L,u⟩ | ⟨rfl,u⟩
  .have f:=Nd.look_zip (vs:=A.vals) u hi L;have c1: ¬(v:Int)< ((0:Nat):Int):=by omega
   by_cases x:v<A.vals.length
   .obtain⟨p,M,N⟩:=(o.prs q).at x;have c2: ¬(A.vals.length:Int)<=(v:Int):=by omega
    rw[zK x]at f;simp only[f,if_true];simp(disch:=omega) only[f78,eZ,b1,jR m,t,c1,o.lnSl,c2,M,N,yB,jM]
   .have c2:(A.vals.length:Int)<=(v:Int):=by omega
    rw[List.getElem?_eq_none (by omega)]at f;simp only[f,if_true];simp(disch:=omega) only[f78,eZ,b1,jR m,t,c1,o.lnSl,c2,s,Option.getD_none,Option.isSome_none]
  .have f:=Nd.look_zip0 (vs:=A.vals) u;have c1:(-1:Int)< ((0:Nat):Int):=by omega
   simp only[f,if_true];simp(disch:=omega) only[f78,eZ,b1,jR m,t,c1,s,Option.getD_none,Option.isSome_none]
end Go.Eng.Sh
end
section
namespace Go.Eng
theorem YU (h:wG k w H i t l)(j:0<k)(u:0<t)(κ:IntKind):
  ∃r,vD k i (some (.int κ (t:Nat))) none none H=some r/\Rw k H r 0 []:=by
 have n:=kQ κ (z:=(t:Int)) (by omega);simp only[yI]at n;have hb:Nat.blt 0 k=true:=by rw[qD];exact j
 have b1:Nat.ble t t=true:=by rw[qT];exact zP _
 have b2:Nat.blt t t=false:=by rw[yA];intro h;rw[qD]at h;omega
 have p:Nat.beq t 0=false:=by rw[yA];intro h;have:=Nat.eq_of_beq_eq_true h;omega
 rcases h with⟨m,⟨rfl,rfl⟩ | ⟨A,rfl,o,a⟩⟩ | ⟨m,A,q,g,rfl,o,a,e⟩
 .omega
 .have f:kS l true k 0 1 k=t:=by
   simp only[kS,show((1 % 2).beq 0)=false from rfl,yM,yO,show Nat.beq 0 (1 / 2*k)=true from by simp,qO,zU,kG,m,jF];exact Nat.mul_div_cancel _ j
  refine⟨.eS, ?_,⟨by simp, .inr (.inl ⟨rfl,rfl⟩)⟩⟩;simp only[vD,kX,n,a,hb,zU];simp[YQ,f,b1,b2,p,show Nat.beq 1 0=false from rfl]
 .have f:kS l g k 0 (2*t) k=t:=by
   simp only[kS,show((2*t) % 2).beq 0=true by rw[jE];rfl,zU,yV t (show 0<2 by omega)]
  have s:Nat.beq (2*t / 2) t=true:=by rw[yV t (show 0<2 by omega),yO]
  refine⟨.slice A 0 0 (2*(2*t / 2 - t)), ?_,⟨by simp, .inr (.inr ⟨A,0,_,l,q,k,g,rfl,a,o,by omega,by simp⟩)⟩⟩;simp only[vD,kX,n,a,hb,zU];simp[YQ,f,b1,s,kI]
end Go.Eng
namespace Go.Eng.Sh
open Go.Nd (Ptr sumL)
theorem zB6(j:H.ok){l:List Str}(h:wG 1 9 H i l.length (l.map S))(hl:l.length<=1000000000):
  ∃a H',f108 D n [i] H=some (a,H')/\Prs H H'/\wG 1 9 H' a l.length (l.map S)/\(∀B,Blk a B->H.next<=B)/\(0<l.length->Own 1 9 H' a l.length (l.map S)):=by
 have hr:=h.row;by_cases s:i= .nS
 .subst s;have z:l=[]:=by
   rcases h with⟨_,⟨_,v⟩ | ⟨A,v,_⟩⟩ | ⟨_,A,_,_,v,_⟩
   .exact zR v
   .cases v
   .cases v
  subst z;refine⟨.nS,H, ?_,zOJ j, .inl (zOP ..),fun B t=>(zOO.1 t).elim,fun h=>absurd h (by simp)⟩;have q:gK .eql (eqS .nS .nS)=some (.bool true):=rfl;simp only[f108,eZ,q]
 .have C:i≠ .eS:=by
   rcases h with⟨_,⟨rfl,_⟩ | ⟨A,rfl,_⟩⟩ | ⟨_,A,_,_,rfl,_⟩<;>simp
  by_cases v:l.length=0
  .obtain⟨a,H',e,p,g,f⟩:=KZ D n j hr s C hl;exact⟨a,H',e,p,g,f,fun h=>absurd h (by omega)⟩
  .have o:Prs H (H.push (.cells [] 9 1 false)):=(zOJ j).push _;have u:(H.push (.cells [] 9 1 false)).h.get H.next=some (.cells [] 9 1 false):=zOB _ _
   have I:(H.push (.cells [] 9 1 false)).next=H.next+1:=rfl
   generalize F:H.push (.cells [] 9 1 false)=H1 at o u I;have J:=WB (k:=1) (e:=9) (bytes:=16) (n:=0) (m:=l.length) (off:=0) (new:=l.map S) o.ok u (by simp) (by omega) (by omega) (by decide);have x:apP 9 1 16 (.slice H.next 0 0 0) i H1=some (.slice H1.next 0 (0+l.length) 1,H1.push (.cells (([]:List AV).drop 0 |>.take (0*1) |> (· ++l.map S)) 9 1 true)):=by
    simp only[apP,(hr.prs o).srcOf,vP,zU];exact J
   have G:Q0 9 1 0 [.str 0 0] []=some (.cells [] 9 1 false,fun A=> .slice A 0 0 0):=rfl;have q:gK .eql (eqS i .nS)=some (.bool false):=by
    rcases h with⟨_,⟨rfl,_⟩ | ⟨A,rfl,_⟩⟩ | ⟨_,A,_,_,rfl,_⟩
    .exact absurd rfl s
    .rfl
    .rfl
   simp only[List.drop_nil,List.take_nil,yE,j7]at x;have y:Own 1 9 (H1.push (.cells (l.map S) 9 1 true)) (.slice H1.next 0 l.length 1) l.length (l.map S):=⟨by simp, .inr ⟨_,rfl,Nat.lt_succ_self _,zOB _ _⟩⟩
   refine⟨.slice H1.next 0 l.length 1,H1.push (.cells (l.map S) 9 1 true), ?_,o.push _, .inl y,fun B t=>by rw[zOG.1 t];omega,fun _=>y⟩
   simp only[f108,eZ,q,G,kV j,F,x]
theorem zAB(m:H.ok){l:List Str}{i:Nat}{x:Str}(h:wG 1 9 H q l.length (l.map S))(K:0<l.length->Own 1 9 H q l.length (l.map S))(hi:i<=l.length)(hl:l.length<=200000000)(p:H.h.get k=some (.cells [S x] 9 1 false)):
  ∃a H',zMN D n [q, .int .i64 (i:Nat), .slice k 0 1 2] H=some (a,H')/\Stp (Blk q) H H'/\wG 1 9 H' a (l.take i++[x]++l.drop i).length ((l.take i++[x]++l.drop i).map S)/\ ∀C,Blk a C->Blk q C\/H.next<=C:=by
 have L:Strs H (.slice k 0 1 2) [x]:=Rw.lit (cc:=2) m p;have v:lnSl (.slice k 0 1 2)=some (.int .i64 (1:Nat)):=rfl;have t10: ¬((1:Nat):Int)=((0:Nat):Int):=by omega
 by_cases G:i=l.length
 .subst G;have M: ∃r,vD 1 q (some (.int .i64 (l.length:Nat))) none none H=some r:=by
   by_cases s:0<l.length
   .obtain⟨r,e,_⟩:=YU h (by decide) s .i64;exact⟨r,e⟩
   .have f:l.length=0:=by omega
    rw[f];rcases h with⟨_,⟨rfl,_⟩ | ⟨A,rfl,_,j⟩⟩ | ⟨_,A,W,g,rfl,_,j,_⟩
    .exact⟨.nS,rfl⟩
    .rw[f];have:l=[]:=zR f;subst this;exact⟨.slice A 0 0 1,by simp[vD,kX,kQ,j,YQ,kI,kS,show Nat.blt 0 1=true from rfl,show Nat.ble 0 0=true from rfl,show Nat.beq 1 0=false from rfl,show Nat.beq 0 0=true from rfl,aO,show Nat.beq 1 1=true from rfl,aR,bne]⟩
    .rw[f];have:l=[]:=zR f;subst this;exact⟨.slice A 0 0 0,by simp[vD,kX,kQ,j,YQ,kI,kS,show Nat.blt 0 1=true from rfl,show Nat.ble 0 0=true from rfl,show Nat.beq 0 0=true from rfl,aO]⟩
  obtain⟨r,hr⟩:=M;obtain⟨a,H',N,O,Q,T⟩:=h.app (bytes:=16) m (by decide) L.srcOf (by simp) (vP _) (by simp;omega) (by decide);refine⟨a,H', ?_,Q,by simpa using O,T⟩;have:f138 D n [q, .int .i64 (l.length:Nat), .slice k 0 1 2] H=some (a,H'):=by
   simp only[f138,eZ,hr,v,t10,h.row.lnSl,N]
  show zLJ (f138 D n) _ H=_;simp only[zLJ,this]
 .have o:i<l.length:=by omega
  have U:=K (by omega);obtain⟨_,⟨_,s⟩ | ⟨A,rfl,t,j⟩⟩:=id U
  .omega
  .obtain⟨r,hr,_⟩:=QG h (by decide) o .i64;have u: ¬(i:Int)=(l.length:Int):=by omega
   have y:zMz X 117 (.slice A 0 l.length 1)=none:=rfl;have I:f138 D n [.slice A 0 l.length 1, .int .i64 (i:Nat), .slice k 0 1 2] H=none:=by
    simp(disch:=omega) only[f138,eZ,hr,v,t10,h.row.lnSl,u,y];rfl
   have b1:Nat.blt i l.length=true:=by rw[qD];exact o
   have b2:Nat.ble ((l.length+1)*16) 140737488355328=true:=by rw[qT];omega
   have J:(H.put A .dead).ok:=m.put t _;refine⟨.slice (H.put A .dead).next 0 (l.length+1) 1,(H.put A .dead).push (.cells ((l.map S).take i++[S x]++(l.map S).drop i) 9 1 true), ?_,((zOJ m).put t _ (.inr (zOG.2 rfl))).push _, ?_,fun C V=> .inr (by rw[zOG.1 V];exact zP _)⟩
   .show zLJ (f138 D n) _ H=_;simp only[zLJ,I];show zMO 9 [.slice A 0 l.length 1, .int .i64 (.ofNat i), .slice k 0 1 2] H=_;simp only[zMO,j,p,b1,b2,vP,kG,jH,yO,show Nat.blt 0 1=true from rfl,show Nat.beq 1 1=true from rfl,show Nat.beq 0 0=true from rfl,show Nat.beq 9 9=true from rfl,qO,Bool.not_false,zU,uW,takeN,jV,YK,wR,cT,aN J,kI]
   .have z:(l.take i++[x]++l.drop i).length=l.length+1:=by simp;omega
    have F:(l.take i++[x]++l.drop i).map S=(l.map S).take i++[S x]++(l.map S).drop i:=by simp
    rw[z,F];exact .inl ⟨by simp;omega, .inr ⟨_,rfl,Nat.lt_succ_self _,zOB _ _⟩⟩
end Go.Eng.Sh
end
section
namespace Go.Eng
theorem Own.set1 {l:List Str}(f:H.ok)(h:Own 1 k H q l.length (l.map S)){i:Nat}(hi:i<l.length)(x:Str):
  ∃p H',(∀κ (z:Int),z=(i:Int)->gY 1 q (.int κ z)=some p)/\stN 1 p (S x) H=some (jU,H')/\Own 1 k H' q (l.set i x).length ((l.set i x).map S)/\Stp (Blk q) H H':=by
 obtain⟨o,⟨_,e⟩ | ⟨A,rfl,a,j⟩⟩:=h
 .omega
 .have hb:Nat.blt i l.length=true:=by rw[qD];exact hi
  refine⟨.ptr A (0+i*1),_,fun κ z m=> ?_,cU j (by decide) (YK x) (by simpa using hi),⟨by simp, .inr ⟨A,by simp,a,by rw[zOF,if_pos rfl];simp[List.map_set]⟩⟩,(zOJ f).put a _ (.inr (zOG.2 rfl))⟩;subst m;simp only[gY,kQ κ (show(0:Int)<=(i:Int)by omega),yI,hb,zU,kI]
end Go.Eng
namespace Go.Eng.Sh
open Go.Nd (Ptr sumL whereN hereN zIt)
def zE2 (a:Nd.Node)(key value:Str):Bool:=Nd.shaped ltS a&&a.leaf&&Nd.mayK key&&decide (value.length<=200)
theorem zIs(hn:200000000<=n)(hk:H.ok){key value:Str}(h:kN H q A)(hs:small A):
  ∃u H',f89 D n [q,S key,S value] H=some (.tuple [u, .int .i64 (if zE2 A key value then 0 else 1:Nat)],H')/\Prs H H'/\vW H.next H' u (if zE2 A key value then zIt A key value else nd0):=by
 have i0:=h.node;obtain⟨ks,vs,ps,rfl,h1,h2,h3⟩:=h;have h8:=Nd.sumL_ge A.keys;have h9:=Nd.sumL_ge A.vals;have s0:=hs;obtain⟨s1,s2,s3⟩:=hs;obtain⟨la,b0⟩: ∃la,la=A.leaf:=⟨_,rfl⟩;obtain⟨po,y⟩: ∃po,po=zE2 A key value:=⟨_,rfl⟩;rw[<-y,<-b0];rw[<-b0]at i0;simp only[zE2,<-b0]at y;obtain⟨H1,A1,b1,p1,g1,m1,n1⟩:=box hk (.cells [.bool la,ks,vs,ps] 119 1 false);obtain⟨H2,V,b2,p2,g2,m2,n2⟩:=box p1.ok (.cells [.bool false, .nS, .nS, .nS] 119 1 false);have P2:Prs H H2:=p1.trans p2;have N:=p2.get p1.ok g1;obtain⟨z,W,p4⟩:=bE D n P2.ok (i0.prs P2) s0 hn;have G:=P2.trans p4;have O:=p4.get P2.ok N;have d0:=p4.get P2.ok g2;obtain⟨Hr,er,gr,sr,nr⟩:=kE G.ok d0 (l':=[.bool false, .nS, .nS, .nS]) rfl rfl;have b3:stN 4 (.ptr V 0) (.agg [.bool false, .nS, .nS, .nS]) z=some (jU,Hr):=er;have Pr:Prs H Hr:=G.fresh sr (fun B a=>by omega);have lr:=uG gr rfl
 cases c1:Nd.shaped ltS A with
 | false=>
  simp only[c1,Bool.false_and,Bool.and_false]at y;subst y;refine⟨.agg [.bool false, .nS, .nS, .nS],Hr, ?_,Pr,vW.zero _ _⟩;simp only[zM,qE];simp(maxSteps:=999999)(disch:=omega) only[f89,eZ,b1,b2,jW N,aH,qA,W,c1,fQ,b3,lr]
 | true=>
 cases la with
 | false=>
  simp only[Bool.false_and,Bool.and_false]at y;subst y;refine⟨.agg [.bool false, .nS, .nS, .nS],Hr, ?_,Pr,vW.zero _ _⟩;simp only[zM,qE];simp(maxSteps:=999999)(disch:=omega) only[f89,eZ,b1,b2,jW N,aH,qA,W,c1,jR O,fQ,b3,lr]
 | true=>
 cases c2:Nd.mayK key with
 | false=>
  simp only[c2,Bool.false_and,Bool.and_false]at y;subst y;refine⟨.agg [.bool false, .nS, .nS, .nS],Hr, ?_,Pr,vW.zero _ _⟩;simp only[zM,qE];simp(maxSteps:=999999)(disch:=omega) only[f89,eZ,b1,b2,jW N,aH,qA,W,c1,jR O,wF,c2,fQ,b3,lr]
 | true=>
 by_cases c3:value.length<=200
 case neg=>
  have a1:((200:Nat):Int)< (value.length:Int):=by omega
  simp only[c3,decide_false,Bool.and_false]at y;subst y;refine⟨.agg [.bool false, .nS, .nS, .nS],Hr, ?_,Pr,vW.zero _ _⟩
  .simp only[zM,qE];simp(maxSteps:=999999)(disch:=omega) only[f89,eZ,b1,b2,jW N,aH,qA,W,c1,jR O,wF,c2,a1,fQ,b3,lr]
 case pos=>
 have a1: ¬((200:Nat):Int)< (value.length:Int):=by omega
 simp only[c1,c2,c3,decide_true,qO]at y;subst y;simp only[if_true];have i5:A.vals.length=A.keys.length:=by
  simp only[Nd.shaped,<-b0,if_true,zF,zQ]at c1;exact c1.2.1.1
 obtain⟨H5,L,b5,p5,g5,m5,n5⟩:=box G.ok (.cells [.bool false, .nS, .nS, .nS] 119 1 false);have P5:=G.trans p5;have up1 {j:AH} (p:Prs z j):=zOM p G.ok O;have up2 {j:AH} (p:Prs z j):=zOM p G.ok d0;have q1 {j:AH} (p:Prs H j):wG 1 9 j ks A.keys.length (A.keys.map S):=h1.mono p (fun _ _ x=>x);have q2 {j:AH} (p:Prs H j):wG 1 9 j vs A.vals.length (A.vals.map S):=h2.mono p (fun _ _ x=>x);obtain⟨F,H6,e6,Y,Z,f6,t6⟩:=zB6 D n P5.ok (q1 P5) (by omega);have P6:=P5.trans Y;obtain⟨m,H7,e7,p7,o7,f7,t7⟩:=zB6 D n P6.ok (q2 P6) (by omega);have P7:=P6.trans p7;obtain⟨H8,e8,g8,s8,n8⟩:=kE P7.ok (zOM (Y.trans p7) P5.ok g5) (l':=[.bool true,F,m, .nS]) rfl (by simp only[jV,Z.row.isCell,o7.row.isCell];rfl);have b7:stN 4 (.ptr L 0) (.agg [.bool true,F,m, .nS]) H7=some (jU,H8):=e8;have N6:=Y.next
 have N7:=p7.next
 have f2:Prs z H7:=(p5.trans Y).trans p7;have a2:Prs z H8:=f2.fresh s8 (fun B a=>by omega);have P8:=G.trans a2;have k1:wG 1 9 H8 F A.keys.length (A.keys.map S):=(Z.mono p7 (fun _ _ x=>x)).mono s8 (fun B a e=>by have:=f6 B a;omega);have k2:wG 1 9 H8 m A.vals.length (A.vals.map S):=o7.mono s8 (fun B a e=>by have:=f7 B a;omega);have Q: ∀B,Blk F B->L<B/\B<H6.next:=fun B a=>⟨by have:=f6 B a;omega,Z.lt a⟩
 have t: ∀B,Blk m B->H6.next<=B/\B<H8.next:=fun B a=>⟨f7 B a,k2.lt a⟩
 obtain⟨H9,e9,I⟩:=YR D n hn P8.ok (key:=key) (i0.prs P8) s0;have P9:=P8.trans I;have a3:Prs z H9:=a2.trans I;have a4:=I.get P8.ok g8;have f3:=Nd.whereN_le A key;have b8:=h1.row.lnSl;have N9:=I.next
 have N5:=p5.next
 have N4:=p4.next
 have d1: ∀ {j:AH} {l:List AV},Prs H j->j.h.get V=some (.cells [.bool false, .nS, .nS, .nS] 119 1 false)->l.length=4->jV l=true-> ∃M,stN 4 (.ptr V 0) (.agg l) j=some (jU,M)/\Prs H M/\Stp (fun B=>B=V) j M/\ldN 4 (.ptr V 0) M=some (.agg l):=fun {j l} px hg hl hc=>by
  obtain⟨M,e,g,s,_⟩:=kE px.ok hg hl hc;have e':stN 4 (.ptr V 0) (.agg l) j=some (jU,M):=e;exact⟨M,e',px.fresh s (fun B a=>by omega),s,uG g hl⟩
 obtain⟨T,B1,d2,J,f4,i6,i7⟩:=box P9.ok (.cells [S key] 9 1 false);have f5:Prs z T:=a3.trans J;have f8:0<A.keys.length->Own 1 9 T F A.keys.length (A.keys.map S):=fun h=>(((t6 h).mono p7 (fun _ _ x=>x)).mono s8 (fun B a e=>by have:=f6 B a;omega)).mono (I.trans J) (fun _ _ x=>x)
 obtain⟨C,d3,d4,a5,b9,f9⟩:=zAB D n J.ok (k1.mono (I.trans J) (fun _ _ x=>x)) f8 f3 (by omega) (x:=key) f4;have g0:d3.h.get L=some (.cells [.bool true,F,m, .nS] 119 1 false):=by rw[a5.keep _ (by have:=J.next;omega) (fun a=>by have:=Q _ a;omega)];exact J.get P9.ok a4
 have d5:Prs z d3:=f5.fresh a5 (fun B a=>by have:=Q B a;omega);obtain⟨d6,d7,a0,a6,i8⟩:=xI d5.ok g0 (o:=1) (x:=C) b9.row.isCell (by simp);have a0:d6.h.get L=some (.cells [.bool true,C,m, .nS] 119 1 false):=a0;have c0:Prs z d6:=d5.fresh a6 (fun B a=>by omega);obtain⟨c4,B2,d8,U,g3,i9,j0⟩:=box c0.ok (.cells [S value] 9 1 false);have g4:Prs z c4:=c0.trans U;have d9: ∀B,Blk m B-> ¬Blk F B:=fun B a a7=>by have:=Q B a7;have:=t B a;omega
 have g6:wG 1 9 c4 m A.vals.length (A.vals.map S):=(((k2.mono (I.trans J) (fun _ _ x=>x)).mono a5 d9).mono a6 (fun B a e=>by have:=t B a;omega)).mono U (fun _ _ x=>x);have g7:0<A.vals.length->Own 1 9 c4 m A.vals.length (A.vals.map S):=fun h=>(((((t7 h).mono s8 (fun B a e=>by have:=f7 B a;omega)).mono (I.trans J) (fun _ _ x=>x)).mono a5 d9).mono a6 (fun B a e=>by have:=t B a;omega)).mono U (fun _ _ x=>x)
 obtain⟨K,e0,e1,c5,c6,f14⟩:=zAB D n U.ok g6 g7 (i:=whereN A key) (by omega) (by omega) (x:=value) g3;have j3:=J.next
 have j4:=a5.next
 have j5:=a6.next
 have j6:=U.next
 have g9:e0.h.get L=some (.cells [.bool true,C,m, .nS] 119 1 false):=by rw[c5.keep _ (by omega) (fun a=>by have:=t _ a;omega)];exact U.get c0.ok a0
 have e2:Prs z e0:=g4.fresh c5 (fun B a=>by have:=t B a;omega);obtain⟨e3,e5,b4,c7,j7⟩:=xI e2.ok g9 (o:=2) (x:=K) c6.row.isCell (by simp);have b4:e3.h.get L=some (.cells [.bool true,C,K, .nS] 119 1 false):=b4;have f1:Prs z e3:=e2.fresh c7 (fun B a=>by omega);have h0:jV [.bool true,C,K, .nS]=true:=by simp only[jV,b9.row.isCell,c6.row.isCell];rfl
 obtain⟨Hz,ez,Pz,sz,lz⟩:=d1 (l:=[.bool true,C,K, .nS]) (G.trans f1) (up2 f1) rfl h0;have a8: ∀B,Blk C B->L<B/\(B<H6.next\/T.next<=B):=fun B a=>by
  rcases f9 B a with h | h
  .have:=Q B h;omega
  .omega
 have c8: ∀B,Blk K B->L<B:=fun B a=>by
  rcases f14 B a with h | h
  .have:=t B h;omega
  .omega
 have j8:=G.next
 have rz:vW H.next Hz (.agg [.bool true,C,K, .nS]) ⟨true,A.keys.take (whereN A key)++[key]++A.keys.drop (whereN A key),A.vals.take (whereN A key)++[value]++A.vals.drop (whereN A key),[]⟩:=
  ⟨⟨C,K, .nS,rfl,((((b9.mono a6 (fun B a e=>by have:=a8 B a;omega)).mono U (fun _ _ x=>x)).mono c5 (fun B a a7=>by have:=a8 B a;have:=t B a7;omega)).mono c7 (fun B a e=>by have:=a8 B a;omega)).mono sz (fun B a e=>by have:=a8 B a;omega),
   (c6.mono c7 (fun B a e=>by have:=c8 B a;omega)).mono sz (fun B a e=>by have:=c8 B a;omega), .inl (zOP ..)⟩,fun B a=>by
     rcases xB.1 a with h | h | h
     .have:=a8 B h;omega
     .have:=c8 B h;omega
     .exact(zOO.1 h).elim⟩
 by_cases c9:whereN A key<A.keys.length
 .obtain⟨v,j1,j2⟩:=(q1 P9).row |> (fun(r:Strs H9 ks A.keys)=>r.at c9);rw[<-vF (d:=[])]at j2;have a9:((whereN A key:Nat):Int)< (A.keys.length:Int):=by omega
  by_cases b6:A.keys.getD (whereN A key) []=key
  .have hh:hereN A key=true:=by simp only[hereN,b6,decide_true,Bool.and_true,zQ];exact c9
   rw[b6]at j2;have h4:=(t7 (by omega)).mono s8 (fun B a e=>by have:=f7 B a;omega);obtain⟨p,T,i1,i2,i3,i4⟩:=Own.set1 P9.ok (h4.mono I (fun _ _ x=>x)) (i:=whereN A key) (by omega) value;have h5:Prs H T:=P9.fresh i4 (fun B a=>by have:=t B a;have:=P5.next;omega)
   have h6:T.h.get L=some (.cells [.bool true,F,m, .nS] 119 1 false):=by rw[i4.keep _ (by omega) (fun a=>by have:=t _ a;omega)];exact a4
   have h7:T.h.get V=some (.cells [.bool false, .nS, .nS, .nS] 119 1 false):=by rw[i4.keep _ (by omega) (fun a=>by have:=t _ a;omega)];exact up2 a3
   obtain⟨M,ey,Py,sy,ly⟩:=d1 (l:=[.bool true,F,m, .nS]) h5 h7 rfl (by simp only[jV,Z.row.isCell,o7.row.isCell];rfl);refine⟨.agg [.bool true,F,m, .nS],M, ?_,Py, ?_⟩
   .simp(maxSteps:=999999)(disch:=omega) only[f89,eZ,b1,b2,jW N,aH,qA,W,c1,jR O,wF,c2,a1,b5,e6,kY (jR (up1 (p5.trans Y)) 2) (kR h2.row),e7,zHp _ Z.row.isCell o7.row.isCell,b7,jW (up1 a2),e9,jR (up1 a3),b8,a9,j1,j2,jR a4,i1,i2,uG h6 rfl,ey,ly]
   .have:zIt A key value=⟨true,A.keys,A.vals.set (whereN A key) value,[]⟩:=by simp only[zIt,hh,if_true]
    rw[this];have NN:=G.next
    refine⟨⟨F,m, .nS,rfl, ?_, ?_, .inl (zOP ..)⟩,fun B a=>by
     rcases xB.1 a with h | h | h
     .have:=Q B h;omega
     .have:=t B h;omega
     .exact(zOO.1 h).elim⟩
    .exact((k1.mono I (fun _ _ x=>x)).mono i4 (fun B a a7=>by have:=Q B a;have:=t B a7;omega)).mono sy (fun B a e=>by have:=Q B a;omega)
    .exact .inl (i3.mono sy (fun B a e=>by have:=t B a;omega))
  .have hh:hereN A key=false:=by simp only[hereN,b6,decide_false,Bool.and_false]
   refine⟨.agg [.bool true,C,K, .nS],Hz, ?_,Pz, ?_⟩
   .simp(maxSteps:=999999)(disch:=omega) only[f89,eZ,b1,b2,jW N,aH,qA,W,c1,jR O,wF,c2,a1,b5,e6,kY (jR (up1 (p5.trans Y)) 2) (kR h2.row),e7,zHp _ Z.row.isCell o7.row.isCell,b7,jW (up1 a2),e9,jR (up1 a3),b8,a9,j1,j2,b6,jR a4,zLg 9 (.str 0 0) (YK key),d2,d4,d7,jR a0,zLg 9 (.str 0 0) (YK value),d8,e1,e5,uG b4 rfl,ez,lz]
   .simp only[zIt,hh,zM,qE];exact rz
 .have hh:hereN A key=false:=by simp only[hereN,c9,decide_false,Bool.false_and]
  have a9: ¬((whereN A key:Nat):Int)< (A.keys.length:Int):=by omega
  refine⟨.agg [.bool true,C,K, .nS],Hz, ?_,Pz, ?_⟩
  .simp(maxSteps:=999999)(disch:=omega) only[f89,eZ,b1,b2,jW N,aH,qA,W,c1,jR O,wF,c2,a1,b5,e6,kY (jR (up1 (p5.trans Y)) 2) (kR h2.row),e7,zHp _ Z.row.isCell o7.row.isCell,b7,jW (up1 a2),e9,jR (up1 a3),b8,a9,jR a4,zLg 9 (.str 0 0) (YK key),d2,d4,d7,jR a0,zLg 9 (.str 0 0) (YK value),d8,e1,e5,uG b4 rfl,ez,lz]
  .simp only[zIt,hh,zM,qE];exact rz
open Go.Nd (zMU)
theorem hi1 {l:List Str}(h:wG 1 9 H q l.length (l.map S)){i:Nat}(hi:i<=l.length):
  ∃r,vD 1 q none (some (.int .i64 (i:Nat))) (some (.int .i64 (i:Nat))) H=some r/\Strs H r (l.take i):=by
 obtain⟨r,f,w,_⟩:=VV h (by decide) hi .i64 .i64;rw[map_take]at w;have a:(l.take i).length=i:=by rw[qC];omega
 exact⟨r,f,by rw[Strs,a];exact w⟩
theorem lo1 {l:List Str}(h:wG 1 9 H q l.length (l.map S)){i:Nat}(hi:i<=l.length)(m:0<l.length):
  ∃r,vD 1 q (some (.int .i64 (i:Nat))) none none H=some r/\Strs H r (l.drop i):=by
 by_cases j:i<l.length
 .obtain⟨r,a,w,_⟩:=QG h (by decide) j .i64;rw[map_drop]at w;have f:(l.drop i).length=l.length - i:=by rw[qJ]
  exact⟨r,a,by rw[Strs,f];exact w⟩
 .obtain rfl:i=l.length:=by omega
  obtain⟨r,a,w⟩:=YU h (by decide) m .i64;exact⟨r,a,by rw[List.drop_length];exact w⟩
def zMV (a:Nd.Node)(key:Str):Nat:=if Nd.shaped ltS a&&a.leaf then(if hereN a key then 0 else 5)else 1
theorem zJ6(hn:200000000<=n)(hk:H.ok){key:Str}(h:kN H i A)(hs:small A):
  ∃u H',f84 D n [i,S key] H=some (.tuple [u, .int .i64 (zMV A key:Nat)],H')/\Prs H H'/\vW H.next H' u (if zMV A key=0 then zMU A key else nd0):=by
 have i0:=h.node;obtain⟨ks,vs,ps,rfl,h1,h2,h3⟩:=h;have a9:=Nd.sumL_ge A.keys;have b0:=Nd.sumL_ge A.vals;have s0:=hs;obtain⟨s1,s2,s3⟩:=hs;obtain⟨T,L⟩: ∃T,T=A.leaf:=⟨_,rfl⟩;obtain⟨po,f⟩: ∃po,po=zMV A key:=⟨_,rfl⟩;rw[<-f,<-L];rw[<-L]at i0;simp only[zMV,<-L]at f;obtain⟨H1,A1,b1,p1,g1,m1,n1⟩:=box hk (.cells [.bool T,ks,vs,ps] 119 1 false);obtain⟨H2,U,b2,p2,g2,m2,n2⟩:=box p1.ok (.cells [.bool false, .nS, .nS, .nS] 119 1 false);have F:Prs H H2:=p1.trans p2;have z:=p2.get p1.ok g1;obtain⟨H4,G,V⟩:=bE D n F.ok (i0.prs F) s0 hn;have y:=F.trans V;have t:=V.get F.ok z;have a5:=V.get F.ok g2;have a0: ∀ {j:AH} {l:List AV},Prs H4 j->l.length=4->jV l=true-> ∃o,stN 4 (.ptr U 0) (.agg l) j=some (jU,o)/\Prs H o/\Stp (fun B=>B=U) j o/\ldN 4 (.ptr U 0) o=some (.agg l):=fun {j l} px hl hc=>by
  obtain⟨o,e,g,s,_⟩:=kE px.ok (zOM px y.ok a5) hl hc;have e':stN 4 (.ptr U 0) (.agg l) j=some (jU,o):=e;exact⟨o,e',(y.trans px).fresh s (fun B C=>by omega),s,uG g hl⟩
 obtain⟨Hr,er,Pr,sr,lr⟩:=a0 (Prs.refl y.ok) (l:=[.bool false, .nS, .nS, .nS]) rfl rfl
 cases c1:Nd.shaped ltS A with
 | false=>
  simp only[c1,Bool.false_and,zM,qE]at f;subst f;refine⟨.agg [.bool false, .nS, .nS, .nS],Hr, ?_,Pr,vW.zero _ _⟩;simp(maxSteps:=999999)(disch:=omega) only[f84,eZ,b1,b2,jW z,aH,qA,G,c1,fQ,er,lr]
 | true=>
 cases T with
 | false=>
  simp only[Bool.and_false,zM,qE]at f;subst f;refine⟨.agg [.bool false, .nS, .nS, .nS],Hr, ?_,Pr,vW.zero _ _⟩;simp(maxSteps:=999999)(disch:=omega) only[f84,eZ,b1,b2,jW z,aH,qA,G,c1,jR t,fQ,er,lr]
 | true=>
 have b3:A.vals.length=A.keys.length:=by
  simp only[Nd.shaped,<-L,if_true,zF,zQ]at c1;exact c1.2.1.1
 simp only[c1,qO,if_true]at f;obtain⟨H5,e5,I⟩:=YR D n hn y.ok (key:=key) (i0.prs y) s0;have m:=y.trans I;have M:=I.get y.ok t;have b4:=Nd.whereN_le A key;have a1:=h1.row.lnSl;obtain⟨Hs,es,Ps,ss,ls⟩:=a0 I (l:=[.bool false, .nS, .nS, .nS]) rfl rfl;have q1 {j:AH} (p:Prs H j):wG 1 9 j ks A.keys.length (A.keys.map S):=h1.mono p (fun _ _ x=>x);have q2 {j:AH} (p:Prs H j):wG 1 9 j vs A.vals.length (A.vals.map S):=h2.mono p (fun _ _ x=>x);by_cases a2:whereN A key<A.keys.length
 case neg=>
  have J:hereN A key=false:=by simp only[hereN,a2,decide_false,Bool.false_and]
  have K:(A.keys.length:Int)<=((whereN A key:Nat):Int):=by omega
  simp only[J,zM,qE]at f;subst f;refine⟨.agg [.bool false, .nS, .nS, .nS],Hs, ?_,Ps,vW.zero _ _⟩;simp(maxSteps:=999999)(disch:=omega) only[f84,eZ,b1,b2,jW z,aH,qA,G,c1,jR t,jW t,e5,jR M,a1,K,fQ,es,ls]
 case pos=>
 obtain⟨q,j1,j2⟩:=(q1 m).row |> (fun(r:Strs H5 ks A.keys)=>r.at a2);rw[<-vF (d:=[])]at j2;have K: ¬(A.keys.length:Int)<=((whereN A key:Nat):Int):=by omega
 by_cases N:A.keys.getD (whereN A key) []=key
 case neg=>
  have J:hereN A key=false:=by simp only[hereN,N,decide_false,Bool.and_false]
  simp only[J,zM,qE]at f;subst f;refine⟨.agg [.bool false, .nS, .nS, .nS],Hs, ?_,Ps,vW.zero _ _⟩;simp(maxSteps:=999999)(disch:=omega) only[f84,eZ,b1,b2,jW z,aH,qA,G,c1,jR t,jW t,e5,jR M,a1,K,j1,j2,ne_eq,N,yQ,fQ,es,ls]
 case pos=>
 have J:hereN A key=true:=by simp only[hereN,N,decide_true,Bool.and_true,zQ];exact a2
 simp only[J,if_true]at f;subst f;generalize hw:whereN A key=v at*
 obtain⟨r1,a6,x1⟩:=hi1 (q1 m) (i:=v) (by omega);obtain⟨r2,a3,x2⟩:=lo1 (q1 m) (i:=v+1) (by omega) (by omega);obtain⟨r3,a7,x3⟩:=hi1 (q2 m) (i:=v) (by omega);obtain⟨r4,a4,x4⟩:=lo1 (q2 m) (i:=v+1) (by omega) (by omega);obtain⟨H6,A6,b6,p6,g6,m6,n6⟩:=box m.ok (.cells [r1,r2] 117 1 false);have W:=m.trans p6;obtain⟨H7,A7,b7,p7,g7,m7,n7⟩:=box W.ok (.cells [r3,r4] 117 1 false);have Y:=W.trans p7;have O:Prs H5 H7:=p6.trans p7;obtain⟨w8,H8,e8,Z,o8,f8⟩:=zJb D n (cc:=4) Y.ok (p7.get W.ok g6) (x1.prs O) (x2.prs O) (by simp only[qC,qJ];omega) (by omega);have P8:=Y.trans Z;have Q:=O.trans Z;obtain⟨w9,H9,e9,p9,o9,f9⟩:=zJb D n (cc:=4) P8.ok (Z.get Y.ok g7) (x3.prs Q) (x4.prs Q) (by simp only[qC,qJ];omega) (by omega);have a8:=Q.trans p9;obtain⟨o,ey,Py,sy,ly⟩:=a0 (I.trans a8) (l:=[.bool true,w8,w9, .nS]) rfl (by simp only[jV,o8.row.isCell,o9.row.isCell];rfl);have N7:=O.next;have N5:=I.next;have N4:=V.next;have N8:=Z.next
 simp only[yH]at a3 a4;have up {j:AH} (p:Prs H5 j):=zOM p m.ok M;refine⟨.agg [.bool true,w8,w9, .nS],o, ?_,Py, ?_⟩
 .simp(maxSteps:=999999)(disch:=omega) only[f84,eZ,b1,b2,jW z,aH,qA,G,c1,jR t,jW t,e5,jR M,a1,K,j1,j2,ne_eq,N,not_true_eq_false,a6,a3,zNk 117 .nS x1.isCell x2.isCell rfl,b6,jR (up p6),uC (q2 m) (q2 W) (by decide),a7,a4,zNk 117 .nS x3.isCell x4.isCell rfl,b7,e8,
   kY (jR (up Q) 2) (kR h2.row),uC (q2 m) (q2 P8) (by decide),kY rfl (kR x3),kY rfl (kR x4),e9,zHp _ o8.row.isCell o9.row.isCell,ey,ly]
 .simp only[if_true,zMU,hw];have NN:=Y.next
  exact⟨⟨w8,w9, .nS,rfl, .inl ((o8.mono p9 (fun _ _ x=>x)).mono sy (fun B C e=>by have:=f8 B C;omega)), .inl (o9.mono sy (fun B C e=>by have:=f9 B C;omega)), .inl (zOP ..)⟩,fun B C=>by
   rcases xB.1 C with h | h | h
   .have:=f8 B h;omega
   .have:=f9 B h;omega
   .exact(zOO.1 h).elim⟩
end Go.Eng.Sh
end
section
namespace Go.Bt
open Go.Nd (Str Kvs lookP putP delP Srt leafOf mayK rising sumL)
open Go.Eng (ltS vI xA QN dJ cX)
abbrev Bd:=Option Str
def zFT:Bd->Str->Prop
 | none,_=>True
 | some a,k=>a=k\/ltS a k=true
def zBV:Bd->Str->Prop
 | none,_=>True
 | some a,k=>ltS a k=true
def hiB:Bd->Str->Prop
 | none,_=>True
 | some b,k=>ltS k b=true
theorem zBV.low {b:Bd}{k:Str}(h:zBV b k):zFT b k:=by
 cases b with
 | none=>trivial
 | some a=>exact .inr h
theorem U9 {a b c:Str}(h:a=b\/ltS a b=true)(k:ltS b c=true):ltS a c=true:=by
 rcases h with rfl | h
 .exact k
 .exact xA h k
theorem bG {a b c:Str}(h:ltS a b=true)(k:b=c\/ltS b c=true):ltS a c=true:=by
 rcases k with rfl | k
 .exact h
 .exact xA h k
theorem le_trans {a b c:Str}(h:a=b\/ltS a b=true)(k:b=c\/ltS b c=true):a=c\/ltS a c=true:=by
 rcases k with rfl | k
 .exact h
 .exact .inr (U9 h k)
theorem not_lt {a b:Str}(h: ¬ltS a b=true):b=a\/ltS b a=true:=by
 cases k:ltS b a with
 | true=>exact .inr rfl
 | false=>exact .inl (QN k (by simpa using h))
theorem zLA {b:Bd}{k x:Str}(h:zFT b k)(f:ltS k x=true):zBV b x:=by
 cases b with
 | none=>trivial
 | some a=>exact U9 h f
theorem K7 {b:Bd}{k x:Str}(h:zBV b k)(f:k=x\/ltS k x=true):zBV b x:=by
 cases b with
 | none=>trivial
 | some a=>exact bG h f
theorem zCZ {b:Bd}{k x:Str}(h:hiB b k)(f:x=k\/ltS x k=true):hiB b x:=by
 cases b with
 | none=>trivial
 | some a=>exact U9 f h
def Tr:Nat->Type
 | 0=>Kvs
 | h+1=>List Str×List (Tr h)
def con:(h:Nat)->Tr h->Kvs
 | 0,l=>l
 | h+1,t=>t.2.flatMap (con h)
def KB {α:Type}(W:Bd->Bd->α->Prop):Bd->List Str->List α->Bd->Prop
 | lo,[],[t],hi=>W lo hi t
 | lo,k::ks,t::ts,hi=>W lo (some k) t/\KB W (some k) ks ts hi
 | _,_,_,_=>False
def WK (lo:Bd)(ks:List Str):Nat->Bd
 | 0=>lo
 | i+1=>ks[i]?
def Q9 (ks:List Str)(hi:Bd)(i:Nat):Bd:=match ks[i]? with
 | some k=>some k
 | none=>hi
theorem K9 (lo:Bd)(k:Str)(ks:List Str)(i:Nat):WK lo (k::ks) (i+1)=WK (some k) ks i:=by cases i<;>rfl
theorem KE (hi:Bd)(k:Str)(ks:List Str)(i:Nat):Q9 (k::ks) hi (i+1)=Q9 ks hi i:=rfl
theorem KB.len {α:Type}{W:Bd->Bd->α->Prop} : ∀ {ks:List Str} {ts:List α} {lo hi:Bd},KB W lo ks ts hi->ts.length=ks.length+1
 | [],[],_,_,h=>h.elim
 | [],[_],_,_,_=>rfl
 | [],_::_::_,_,_,h=>h.elim
 | _::_,[],_,_,h=>h.elim
 | _::ks,_::ts,_,_,h=>by simp[KB.len h.2]
theorem KB.at {α:Type}{W:Bd->Bd->α->Prop} : ∀ {ks:List Str} {ts:List α} {lo hi:Bd} {i:Nat} {t:α},KB W lo ks ts hi->ts[i]? =some t->W (WK lo ks i) (Q9 ks hi i) t
 | [],[],_,_,_,_,h,_=>h.elim
 | [],[a],_,_,0,t,h,ht=>by simp at ht;subst ht;exact h
 | [],[a],_,_,i+1,t,h,ht=>by simp at ht
 | [],_::_::_,_,_,_,_,h,_=>h.elim
 | _::_,[],_,_,_,_,h,_=>h.elim
 | k::ks,a::ts,_,_,0,t,h,ht=>by simp at ht;subst ht;exact h.1
 | k::ks,a::ts,_,_,i+1,t,h,ht=>by
  simp only[yW]at ht;rw[K9,KE];exact KB.at h.2 ht
theorem KB.mono {α:Type}{W f:Bd->Bd->α->Prop}(a: ∀lo hi t,W lo hi t->f lo hi t): ∀ {ks:List Str} {ts:List α} {lo hi:Bd},KB W lo ks ts hi->KB f lo ks ts hi
 | [],[],_,_,h=>h.elim
 | [],[_],_,_,h=>a _ _ _ h
 | [],_::_::_,_,_,h=>h.elim
 | _::_,[],_,_,h=>h.elim
 | _::ks,_::ts,_,_,h=>⟨a _ _ _ h.1,KB.mono a h.2⟩
theorem KB.app {α:Type}{W:Bd->Bd->α->Prop}{k:Str}{a:List Str}{f:List α}{hi:Bd}(i:KB W (some k) a f hi): ∀ {ks:List Str} {ts:List α} {lo:Bd},KB W lo ks ts (some k)->KB W lo (ks++(k::a)) (ts++f) hi
 | [],[],_,h=>h.elim
 | [],[_],_,h=>⟨h,i⟩
 | [],_::_::_,_,h=>h.elim
 | _::_,[],_,h=>h.elim
 | _::ks,_::ts,_,h=>⟨h.1,KB.app i h.2⟩
theorem KB.drop {α:Type}{W:Bd->Bd->α->Prop} : ∀ {ks:List Str} {ts:List α} {lo hi:Bd} {m:Nat} {k:Str},KB W lo ks ts hi->ks[m]? =some k->KB W (some k) (ks.drop (m+1)) (ts.drop (m+1)) hi
 | [],_,_,_,_,_,_,hk=>by simp at hk
 | _::_,[],_,_,_,_,h,_=>h.elim
 | a::ks,t::ts,_,_,0,k,h,hk=>by simp at hk;subst hk;exact h.2
 | a::ks,t::ts,_,_,m+1,k,h,hk=>by
  simp only[yW]at hk;have:=KB.drop (m:=m) h.2 hk;exact this
theorem KB.take {α:Type}{W:Bd->Bd->α->Prop} : ∀ {ks:List Str} {ts:List α} {lo hi:Bd} {m:Nat} {k:Str},KB W lo ks ts hi->ks[m]? =some k->KB W lo (ks.take m) (ts.take (m+1)) (some k)
 | [],_,_,_,_,_,_,hk=>by simp at hk
 | _::_,[],_,_,_,_,h,_=>h.elim
 | a::ks,t::ts,_,_,0,k,h,hk=>by simp at hk;subst hk;exact h.1
 | a::ks,t::ts,_,_,m+1,k,h,hk=>by
  simp only[yW]at hk;exact⟨h.1,KB.take h.2 hk⟩
theorem KB.head {α:Type}{W:Bd->Bd->α->Prop}{ks:List Str}{ts:List α}{j hi:Bd}{m:Nat}(h:KB W j ks ts hi)(hm:m<ts.length): ∀ {f:List Str} {i:List α} {lo:Bd},KB W lo f i (Q9 ks hi m)->KB W lo (f++ks.drop m) (i++ts.drop (m+1)) hi
 | [],[],_,h=>h.elim
 | [],[p],lo,hp=>by
  have hl:=h.len;simp only[Q9]at hp
  cases a:ks[m]? with
  | none=>
   rw[a]at hp;have:ks.length<=m:=by simpa using a
   rw[qS this,qS (by omega)];exact hp
  | some k=>
   rw[a]at hp;obtain⟨o,rfl⟩:=qP.1 a;rw[qN o];exact⟨hp,h.drop a⟩
 | [],_::_::_,_,h=>h.elim
 | _::_,[],_,h=>h.elim
 | _::f,_::i,_,hp=>⟨hp.1,KB.head h hm hp.2⟩
theorem KB.splice {α:Type}{W:Bd->Bd->α->Prop}{a:List Str}{f:List α} : ∀ {ks:List Str} {ts:List α} {lo hi:Bd} {i m:Nat},KB W lo ks ts hi->i+m<ts.length->KB W (WK lo ks i) a f (Q9 ks hi (i+m))->KB W lo (ks.take i++a++ks.drop (i+m)) (ts.take i++f++ts.drop (i+m+1)) hi
 | ks,ts,lo,hi,0,m,h,hm,hp=>by
  simp only[j7,List.take_zero,yE]at hm hp⊢;exact KB.head h hm (lo:=lo) hp
 | [],ts,_,_,i+1,m,h,hm,_=>by have:=h.len;simp only[yS]at this;omega
 | _::_,[],_,_,_+1,_,h,_,_=>h.elim
 | k::ks,t::ts,lo,hi,i+1,m,h,hm,hp=>by
  have e:i+1+m=i+m+1:=by omega
  rw[e,K9,KE]at hp;rw[e];simp only[zY]at hm;have:=KB.splice (i:=i) (m:=m) h.2 (by omega) hp;simp only[List.take_succ_cons,List.drop_succ_cons,qF];exact⟨h.1,this⟩
def Lf (lo hi:Bd)(l:Kvs):Prop:=Srt l/\ ∀p∈l,zFT lo p.1/\hiB hi p.1/\mayK p.1=true/\p.2.length<=200
def wU (l:Kvs):Nat:=Nd.size (leafOf l)
def wX (ks:List Str)(n:Nat):Nat:=2+16*n+sumL ks
def Inn {α:Type}(W:Bd->Bd->α->Prop)(lo hi:Bd)(t:List Str×List α):Prop:=(∀k∈t.1,mayK k=true/\zBV lo k/\hiB hi k)/\rising ltS t.1=true/\KB W lo t.1 t.2 hi
def wM:(h:Nat)->Tr h->Nat
 | 0,l=>wU l
 | _+1,t=>wX t.1 t.2.length
def WF:(h:Nat)->Bd->Bd->Tr h->Prop
 | 0,lo,hi,l=>Lf lo hi l/\l≠[]/\wU l<=500
 | h+1,lo,hi,t=>Inn (WF h) lo hi t/\t.1≠[]/\160<=wX t.1 t.2.length/\wX t.1 t.2.length<=500
def WR:(h:Nat)->Tr h->Prop
 | 0,l=>Lf none none l/\l≠[]/\wU l<=500
 | h+1,t=>Inn (WF h) none none t/\t.1≠[]/\wX t.1 t.2.length<=500
def WX:(h:Nat)->Bd->Bd->Tr h->Prop
 | 0,lo,hi,l=>Lf lo hi l/\wU l<=785
 | h+1,lo,hi,t=>Inn (WF h) lo hi t/\wX t.1 t.2.length<=785
theorem zB3 {h:Nat}(a: ∀ {lo hi:Bd} {t:Tr h},WF h lo hi t-> ∀p∈con h t,zFT lo p.1/\hiB hi p.1): ∀ {ks:List Str} {ts:List (Tr h)} {lo hi:Bd},KB (WF h) lo ks ts hi->rising ltS ks=true->(∀k∈ks,zBV lo k/\hiB hi k)-> ∀p∈ts.flatMap (con h),zFT lo p.1/\hiB hi p.1
 | [],[],_,_,h,_,_=>h.elim
 | [],[t],lo,hi,hk,_,_=>fun p hp=>by
  simp only[qL,List.flatMap_nil,qW]at hp;exact a hk p hp
 | [],_::_::_,_,_,h,_,_=>h.elim
 | _::_,[],_,_,h,_,_=>h.elim
 | k::ks,t::ts,lo,hi,hk,hr,hb=>fun p hp=>by
  have f:=hb k (zJ ..);rw[Nd.rising_cons]at hr;simp only[qL,qB]at hp;rcases hp with hp | hp
  .have:=a hk.1 p hp;exact⟨this.1,zCZ f.2 (.inr this.2)⟩
  .have:=zB3 a hk.2 hr.2 (fun x i=>⟨hr.1 x i,(hb x (zE _ i)).2⟩) p hp;exact⟨(K7 f.1 this.1).low,this.2⟩
theorem zB4: ∀(h:Nat) {lo hi:Bd} {t:Tr h},WF h lo hi t-> ∀p∈con h t,zFT lo p.1/\hiB hi p.1
 | 0,lo,hi,l,hw,p,hp=>⟨(hw.1.2 p hp).1,(hw.1.2 p hp).2.1⟩
 | h+1,lo,hi,t,hw,p,hp=>zB3 (zB4 h) hw.1.2.2 hw.1.2.1 (fun k a=>(hw.1.1 k a).2) p hp
theorem zF6 {a b:Kvs}(i:Srt a)(hb:Srt b)(h: ∀p∈a,∀q∈b,ltS p.1 q.1=true):Srt (a++b):=by
 induction a with
 | nil=>exact hb
 | cons p a ih=>
  obtain⟨k,v⟩:=p;refine⟨fun q f=> ?_,ih i.2 fun p hp=>h p (zE _ hp)⟩;rcases qB.1 f with f | f
  .exact i.1 q f
  .exact h _ (zJ ..) q f
theorem zF5 {h:Nat}(a: ∀ {lo hi:Bd} {t:Tr h},WF h lo hi t->Srt (con h t)): ∀ {ks:List Str} {ts:List (Tr h)} {lo hi:Bd},KB (WF h) lo ks ts hi->rising ltS ks=true->(∀k∈ks,zBV lo k/\hiB hi k)->Srt (ts.flatMap (con h))
 | [],[],_,_,h,_,_=>h.elim
 | [],[t],lo,hi,hk,_,_=>by
  simp only[qL,List.flatMap_nil,qW];exact a hk
 | [],_::_::_,_,_,h,_,_=>h.elim
 | _::_,[],_,_,h,_,_=>h.elim
 | k::ks,t::ts,lo,hi,hk,hr,hb=>by
  rw[Nd.rising_cons]at hr;have f: ∀x∈ks,zBV (some k) x/\hiB hi x:=fun x i=>⟨hr.1 x i,(hb x (zE _ i)).2⟩
  simp only[qL];refine zF6 (a hk.1) (zF5 a hk.2 hr.2 f) fun p hp q j=> ?_
  exact bG (zB4 h hk.1 p hp).2 (zB3 (zB4 h) hk.2 hr.2 f q j).1
theorem zH9: ∀(h:Nat) {lo hi:Bd} {t:Tr h},WF h lo hi t->Srt (con h t)
 | 0,_,_,_,hw=>hw.1.1
 | h+1,_,_,_,hw=>zF5 (zH9 h) hw.1.2.2 hw.1.2.1 (fun k a=>(hw.1.1 k a).2)
theorem zLL {lo hi:Bd}{t:List Str×List (Tr k)}(a:Inn (WF k) lo hi t):Srt (t.2.flatMap (con k)):=
 zF5 (zH9 k) a.2.2 a.2.1 (fun h f=>(a.1 h f).2)
theorem zN1 {t:Tr k}(a:WR k t):Srt (con k t):=by
 cases k with
 | zero=>exact a.1.1
 | succ k=>exact zLL a.1
theorem zOe {lo hi:Bd}{t:Tr k}(a:WF k lo hi t): ∀p∈con k t,mayK p.1=true/\p.2.length<=200:=by
 induction k generalizing lo hi with
 | zero=>exact fun p hp=>(a.1.2 p hp).2.2
 | succ k ih=>
  intro p hp;obtain⟨t0,f,hp⟩:=List.mem_flatMap.1 hp;obtain⟨i,j,rfl⟩:=List.mem_iff_getElem.1 f;exact ih (KB.at a.1.2.2 (zK j)) p hp
theorem zFz {k v:Str}{A C B:Kvs}(f: ∀p∈A,ltS p.1 k=true)(i: ∀p∈B,ltS k p.1=true):putP k v (A++C++B)=A++putP k v C++B:=by
 induction A with
 | nil=>
  simp only[yE]
  induction C with
  | nil=>
   cases B with
   | nil=>rfl
   | cons b B=>
    obtain⟨b,w⟩:=b;have h:=i (b,w) (zJ ..);simp only[yE,putP,qF];rw[if_neg (fun e=>cX h e.symm),if_neg (by rw[dJ h];simp)]
  | cons c C ih=>
   obtain⟨c,w⟩:=c;simp only[qF,putP];split
   .rfl
   .split
    .rw[ih];rfl
    .rfl
 | cons a A ih=>
  obtain⟨a,w⟩:=a;have h:=f (a,w) (zJ ..);simp only[qF,putP];rw[if_neg (cX h),if_pos h,ih (fun p hp=>f p (zE _ hp))]
theorem zCU {k:Str}{A B:Kvs} :lookP k (A++B)=match lookP k A with | some v=>some v | none=>lookP k B:=by
 induction A with
 | nil=>rfl
 | cons a A ih=>
  obtain⟨a,w⟩:=a;simp only[qF,lookP];split
  .rfl
  .exact ih
theorem zCS {k:Str}{A C B:Kvs}(a: ∀p∈A,ltS p.1 k=true)(f: ∀p∈B,ltS k p.1=true):lookP k (A++C++B)=lookP k C:=by
 rw[zCU,zCU,Nd.look_none (l:=A) (fun p hp=>cX (a p hp)),Nd.look_none (l:=B) (fun p hp e=>cX (f p hp) e.symm)]
 cases lookP k C<;>rfl
theorem UQ {k:Str}{l:Kvs}(h: ∀p∈l,p.1≠k):delP k l=l:=by
 induction l with
 | nil=>rfl
 | cons a l ih=>
  obtain⟨a,w⟩:=a;rw[delP,if_neg (h (a,w) (zJ ..)),ih fun p hp=>h p (zE _ hp)]
theorem zGZ {k:Str}{A C B:Kvs}(f: ∀p∈A,ltS p.1 k=true)(i: ∀p∈B,ltS k p.1=true):delP k (A++C++B)=A++delP k C++B:=by
 induction A with
 | nil=>
  simp only[yE]
  induction C with
  | nil=>exact UQ fun p hp e=>cX (i p hp) e.symm
  | cons c C ih=>
   obtain⟨c,w⟩:=c;simp only[qF,delP];split
   .rfl
   .rw[ih];rfl
 | cons a A ih=>
  obtain⟨a,w⟩:=a;have h:=f (a,w) (zJ ..);simp only[qF,delP];rw[if_neg (cX h),ih (fun p hp=>f p (zE _ hp))]
def wY (ks:List Str)(key:Str):Nat:=(ks.filter fun k=>ltS k key||decide (k=key)).length
theorem JF (ks:List Str)(key:Str):wY ks key<=ks.length:=List.length_filter_le _ _
theorem JG {a key:Str}{ks:List Str}(h:rising ltS (a::ks)=true):wY (a::ks) key=if ltS key a=true then 0 else wY ks key+1:=by
 rw[Nd.rising_cons]at h;by_cases f:ltS key a=true
 .rw[if_pos f,wY,List.length_eq_zero_iff,List.filter_eq_nil_iff];intro x m i;have j:ltS key x=true:=by
   rcases zO.1 m with rfl | m
   .exact f
   .exact xA f (h.1 x m)
  simp only[j9,zQ]at i;rcases i with i | rfl
  .rw[dJ i]at j;cases j
  .rw[vI]at j;cases j
 .rw[if_neg f,wY,List.filter_cons];have:(ltS a key||decide (a=key))=true:=by
   simp only[j9,zQ];rcases not_lt f with e | e
   .exact .inr e
   .exact .inl e
  rw[this];rfl
theorem VK {key:Str} : ∀ {ks:List Str} {lo:Bd},rising ltS ks=true->zFT lo key->zFT (WK lo ks (wY ks key)) key
 | [],_,_,h=>h
 | a::ks,lo,hr,h=>by
  rw[JG hr];by_cases f:ltS key a=true
  .rw[if_pos f];exact h
  .rw[if_neg f,K9];rw[Nd.rising_cons]at hr;exact VK hr.2 (not_lt f)
theorem VL {key:Str} : ∀ {ks:List Str} {hi:Bd},rising ltS ks=true->hiB hi key->hiB (Q9 ks hi (wY ks key)) key
 | [],_,_,h=>h
 | a::ks,hi,hr,h=>by
  rw[JG hr];by_cases f:ltS key a=true
  .rw[if_pos f];exact f
  .rw[if_neg f,KE];rw[Nd.rising_cons]at hr;exact VL hr.2 h
theorem JD {lo hi:Bd}{key:Str}{ks:List Str}{ts:List (Tr k)}(q:Inn (WF k) lo hi (ks,ts)):
  (∀p∈(ts.take (wY ks key)).flatMap (con k),ltS p.1 key=true)/\ ∀p∈(ts.drop (wY ks key+1)).flatMap (con k),ltS key p.1=true:=by
 obtain⟨s,f,o⟩:=q;simp only at s f o;have u:=JF ks key;have z:=o.len;constructor
 .have hl:=VK (lo:=none) f (key:=key) trivial
  cases q:wY ks key with
  | zero=>intro p hp;simp at hp
  | succ w=>
   rw[q]at hl u;have m:w<ks.length:=by omega
   simp only[WK,zK m]at hl;have i:=o.take (zK m);have hr:rising ltS (ks.take w)=true:=Nd.rising_take f w;intro p hp;have hm: ∀x∈ks.take w,ltS x ks[w]=true:=fun x a=>by
    obtain⟨j,y,rfl⟩:=List.mem_iff_getElem.1 a;simp only[qC]at y;rw[List.getElem_take];have hd:=Nd.rising_drop f j;rw[qN (by omega),Nd.rising_cons]at hd;refine hd.1 _ ?_;rw[List.mem_iff_getElem];exact⟨w - (j+1),by simp;omega,by rw[List.getElem_drop];congr 1;omega⟩
   have:=zB3 (zB4 k) i hr (fun x a=>⟨(s x (List.mem_of_mem_take a)).2.1,hm x a⟩) p hp;exact bG this.2 hl
 .have t:=VL (hi:=none) f (key:=key) trivial;intro p hp
  cases i:ks[wY ks key]? with
  | none=>
   have:ks.length<=wY ks key:=by simpa using i
   rw[qS (by omega)]at hp;simp at hp
  | some h=>
   simp only[Q9,i]at t;obtain⟨m,rfl⟩:=qP.1 i;have v:=o.drop i;have hd:=Nd.rising_drop f (wY ks key);rw[qN m,Nd.rising_cons]at hd;have:=zB3 (zB4 k) v hd.2 (fun x a=>⟨hd.1 x a,(s x (List.mem_of_mem_drop a)).2.2⟩) p hp;exact bG t this.1
theorem VU {α:Type}{ts:List α}{t:α}(h:ts[k]? =some t):ts=ts.take k++[t]++ts.drop (k+1):=by
 obtain⟨hi,rfl⟩:=qP.1 h;rw[qH,List.singleton_append,<-qN hi,qV]
theorem uY {a b:List Str} :rising ltS (a++b)=true↔rising ltS a=true/\rising ltS b=true/\ ∀x∈a,∀y∈b,ltS x y=true:=by
 induction a with
 | nil=>simp[rising]
 | cons c a ih=>
  rw[qF,Nd.rising_cons,Nd.rising_cons,ih];simp only[qB,zO];constructor
  .rintro⟨h1,h2,h3,h4⟩
   refine⟨⟨fun x f=>h1 x (.inl f),h2⟩,h3,fun x f y h=> ?_⟩;rcases f with rfl | f
   .exact h1 y (.inr h)
   .exact h4 x f y h
  .rintro⟨⟨h1,h2⟩,h3,h4⟩
   exact⟨fun x f=>f.elim (h1 x) (h4 c (.inl rfl) x),h2,h3,fun x f y h=>h4 x (.inr f) y h⟩
theorem Inn.splice {α:Type}{W:Bd->Bd->α->Prop}{lo hi:Bd}{ks F:List Str}{ts J:List α}{i m:Nat}(h:Inn W lo hi (ks,ts))(hm:i+m<ts.length)(hp:Inn W (WK lo ks i) (Q9 ks hi (i+m)) (F,J)):
  Inn W lo hi (ks.take i++F++ks.drop (i+m),ts.take i++J++ts.drop (i+m+1)):=by
 obtain⟨C,u,G⟩:=h;obtain⟨v,K,L⟩:=hp;simp only at C u G v K L;have T:=G.len;have M: ∀x∈ks.take i,∀y∈F,ltS x y=true:=fun x a y I=>by
  have t:=(v y I).2.1
  cases i with
  | zero=>simp at a
  | succ j=>
   have f:j<ks.length:=by omega
   simp only[WK,zK f]at t;rw[qQ f,qB,yF]at a;rcases a with a | rfl
   .have:=Nd.rising_take u (j+1);rw[qQ f,uY]at this;exact xA (this.2.2 x a _ (List.mem_singleton_self _)) t
   .exact t
 have N: ∀y∈F,∀z∈ks.drop (i+m),ltS y z=true:=fun y I z o=>by
  have t:=(v y I).2.2;by_cases f:i+m<ks.length
  .simp only[Q9,zK f]at t;have hd:=Nd.rising_drop u (i+m);rw[qN f]at o hd;rw[Nd.rising_cons]at hd;rcases zO.1 o with rfl | o
   .exact t
   .exact xA t (hd.1 z o)
  .rw[qS (by omega)]at o;simp at o
 have O: ∀x∈ks.take i,∀z∈ks.drop (i+m),ltS x z=true:=fun x a z o=>by
  have:ks=ks.take (i+m)++ks.drop (i+m):=(qV _ _).symm;rw[this,uY]at u;refine u.2.2 x ?_ z o;have:ks.take i=(ks.take (i+m)).take i:=by rw[List.take_take,Nat.min_eq_left (by omega)]
  rw[this]at a;exact List.mem_of_mem_take a
 have Q: ∀s,zBV (WK lo ks i) s->zBV lo s:=fun s q=>by
  cases i with
  | zero=>exact q
  | succ j=>
   have f:j<ks.length:=by omega
   simp only[WK,zK f]at q;exact K7 (C _ (yJ f)).2.1 (.inr q)
 have S: ∀s,hiB (Q9 ks hi (i+m)) s->hiB hi s:=fun s q=>by
  by_cases f:i+m<ks.length
  .simp only[Q9,zK f]at q;exact zCZ (C _ (yJ f)).2.2 (.inr q)
  .simp only[Q9,List.getElem?_eq_none (show ks.length<=i+m by omega)]at q;exact q
 refine⟨fun k p=> ?_, ?_,KB.splice G hm L⟩
 .simp only[qB]at p;rcases p with(p | p) | p
  .exact C k (List.mem_of_mem_take p)
  .exact⟨(v k p).1,Q k (v k p).2.1,S k (v k p).2.2⟩
  .exact C k (List.mem_of_mem_drop p)
 .rw[uY,uY];refine⟨⟨Nd.rising_take u i,K,M⟩,Nd.rising_drop u _,fun x a z o=> ?_⟩;rcases qB.1 a with a | a
  .exact O x a z o
  .exact N x a z o
def Gen:(h:Nat)->Bd->Bd->Tr h->Prop
 | 0,lo,hi,l=>Lf lo hi l
 | h+1,lo,hi,t=>Inn (WF h) lo hi t
def Full:(h:Nat)->Tr h->Prop
 | 0,l=>l≠[]
 | _+1,t=>160<=wX t.1 t.2.length
theorem WF.gen: ∀ {h:Nat} {lo hi:Bd} {t:Tr h},WF h lo hi t->Gen h lo hi t
 | 0,_,_,_,w=>w.1
 | _+1,_,_,_,w=>w.1
theorem WX.gen: ∀ {h:Nat} {lo hi:Bd} {t:Tr h},WX h lo hi t->Gen h lo hi t
 | 0,_,_,_,w=>w.1
 | _+1,_,_,_,w=>w.1
theorem WF.full: ∀ {h:Nat} {lo hi:Bd} {t:Tr h},WF h lo hi t->Full h t
 | 0,_,_,_,w=>w.2.1
 | _+1,_,_,_,w=>w.2.2.1
theorem WF.sz: ∀ {h:Nat} {lo hi:Bd} {t:Tr h},WF h lo hi t->wM h t<=500
 | 0,_,_,_,w=>w.2.2
 | _+1,_,_,_,w=>w.2.2.2
theorem WX.sz: ∀ {h:Nat} {lo hi:Bd} {t:Tr h},WX h lo hi t->wM h t<=785
 | 0,_,_,_,w=>w.2
 | _+1,_,_,_,w=>w.2
theorem Gen.wx: ∀ {h:Nat} {lo hi:Bd} {t:Tr h},Gen h lo hi t->wM h t<=785->WX h lo hi t
 | 0,_,_,_,w,s=>⟨w,s⟩
 | _+1,_,_,_,w,s=>⟨w,s⟩
theorem Gen.wf: ∀ {h:Nat} {lo hi:Bd} {t:Tr h},Gen h lo hi t->Full h t->wM h t<=500->WF h lo hi t
 | 0,_,_,_,w,f,s=>⟨w,f,s⟩
 | h+1,_,_,t,w,f,s=>⟨w,fun e=>by
  have hl:=w.2.2.len;have a:160<=wX t.1 t.2.length:=f;rw[hl,e]at a;simp[wX,sumL]at a,f,s⟩
def ZP:(h:Nat)->Tr h->Str->Tr h->Tr h
 | 0,a,_,b=>List.append a b
 | _+1,a,s,b=>(a.1++([s]++b.1),a.2++b.2)
theorem zDq: ∀(h:Nat) (a:Tr h) (s:Str) (b:Tr h),con h (ZP h a s b)=con h a++con h b
 | 0,_,_,_=>rfl
 | h+1,a,s,b=>by simp[con,ZP]
theorem K6 (a b:Kvs):wU (a++b)+2=wU a+wU b:=by
 simp only[wU,leafOf,Nd.size,List.map_append,Nd.sumL_append,yS];omega
theorem sumL_nil:sumL []=0:=rfl
theorem KC (h:Nat)(a:Tr h)(s:Str)(b:Tr h)(f:s.length<=40):wM h (ZP h a s b)<=wM h a+wM h b+39/\wM h b<=wM h (ZP h a s b)/\wM h a<=wM h (ZP h a s b):=by
 cases h with
 | zero=>
  have key: ∀a b:Kvs,wU (a++b)<=wU a+wU b+39/\wU b<=wU (a++b)/\wU a<=wU (a++b):=fun a b=>by
   have:=K6 a b;have i:2<=wU a:=by simp only[wU,Nd.size];omega
   have j:2<=wU b:=by simp only[wU,Nd.size];omega
   omega
  exact key a b
 | succ h=>
  simp only[wM,ZP,wX,zV,Nd.sumL_append,Nd.sumL_cons,sumL_nil];omega
theorem zCY {lo hi:Bd}{s:Str}{a b:Tr k}(u:Gen k lo (some s) a)(hb:Gen k (some s) hi b)(m:mayK s=true/\zBV lo s/\hiB hi s):Gen k lo hi (ZP k a s b):=by
 cases k with
 | zero=>
  obtain⟨i,j⟩:=u;obtain⟨b1,b2⟩:=hb;refine⟨zF6 i b1 fun p hp q v=>bG (j p hp).2.1 (b2 q v).1,fun p hp=> ?_⟩;rcases qB.1 hp with hp | hp
  .exact⟨(j p hp).1,zCZ m.2.2 (.inr (j p hp).2.1),(j p hp).2.2⟩
  .exact⟨(K7 m.2.1 (b2 p hp).1).low,(b2 p hp).2.1,(b2 p hp).2.2⟩
 | succ k=>
  obtain⟨i,j,z⟩:=u;obtain⟨b1,b2,C⟩:=hb;refine⟨fun h f=> ?_, ?_,KB.app C z⟩
  .simp only[ZP,qB,yF]at f;rcases f with f | rfl | f
   .exact⟨(i h f).1,(i h f).2.1,zCZ m.2.2 (.inr (i h f).2.2)⟩
   .exact m
   .exact⟨(b1 h f).1,K7 m.2.1 (.inr (b1 h f).2.1),(b1 h f).2.2⟩
  .simp only[ZP];rw[uY,List.singleton_append,Nd.rising_cons];refine⟨j,⟨fun x o=>(b1 x o).2.1,b2⟩,fun x o y t=> ?_⟩;rcases zO.1 t with rfl | t
   .exact(i x o).2.2
   .exact xA (i x o).2.2 (b1 y t).2.1
theorem aJ {a b:Kvs} :Srt (a++b)↔Srt a/\Srt b/\ ∀p∈a,∀q∈b,ltS p.1 q.1=true:=by
 induction a with
 | nil=>simp[Srt]
 | cons c a ih=>
  obtain⟨c,w⟩:=c;rw[qF,Srt,Srt,ih];simp only[qB,zO];constructor
  .rintro⟨h1,h2,h3,h4⟩
   refine⟨⟨fun x f=>h1 x (.inl f),h2⟩,h3,fun x f y h=> ?_⟩;rcases f with rfl | f
   .exact h1 y (.inr h)
   .exact h4 x f y h
  .rintro⟨⟨h1,h2⟩,h3,h4⟩
   exact⟨fun x f=>f.elim (h1 x) (h4 _ (.inl rfl) x),h2,h3,fun x f y h=>h4 x (.inr f) y h⟩
def psz:(h:Nat)->Tr h->Nat->Nat
 | 0,l,k=>wU (List.take (α:=Str×Str) k l)
 | _+1,t,k=>wX (t.1.take k) (k+1)
def WP:(h:Nat)->Tr h->Nat
 | 0,l=>List.length (α:=Str×Str) l
 | _+1,t=>t.1.length
def zOy (h:Nat)(t:Tr h)(k:Nat):Prop:=
 1<=k/\k+min (h+1) 2<=WP h t/\(k=1\/psz h t k<=(wM h t - 2) / 2+2)/\(k+min (h+1) 2=WP h t\/(wM h t - 2) / 2+2<psz h t (k+1))
def zMZ:(h:Nat)->Tr h->Tr h->Str->Tr h->Prop
 | 0,l,a,s,b=> ∃k,zOy 0 l k/\a=List.take (α:=Str×Str) k l/\s=(List.map Prod.fst (l:Kvs)).getD k []/\b=List.drop (α:=Str×Str) k l
 | h+1,t,a,s,b=> ∃k,zOy (h+1) t k/\a=(t.1.take k,t.2.take (k+1))/\s=t.1.getD k []/\b=(t.1.drop (k+1),t.2.drop (k+1))
theorem xY (p:Str×Str)(l:Kvs):wU (p::l)=wU l+(2+p.1.length+p.2.length):=by
 simp only[wU,leafOf,Nd.size,yK,Nd.sumL_cons,yS];omega
theorem dK:wU []=2:=rfl
theorem zC9 {p:Str×Str}(h:mayK p.1=true/\p.2.length<=200):2+p.1.length+p.2.length<=242:=by
 obtain⟨a,f⟩:=h;simp only[mayK,zF,zQ]at a;omega
theorem zJ7 {lo hi:Bd}{l a b:Kvs}{s:Str}(z:Lf lo hi l)(I:wU l<=785)(hb:500<wU l)(C:zMZ 0 l a s b):
  Lf lo (some s) a/\Lf (some s) hi b/\(mayK s=true/\zBV lo s/\hiB hi s)/\a++b=l/\a≠[]/\b≠[]/\wU a<=500/\wU b<=wU l - (wU l - 2) / 2+241:=by
 obtain⟨k,⟨k1,k2,k3,k4⟩,rfl,rfl,rfl⟩:=C;simp only[WP,psz,wM,j7,show min 1 2=1 from rfl]at k2 k3 k4;have h:k<l.length:=k2;have j:l.take k++l.drop k=l:=qV _ _;obtain⟨F,f⟩:=z;have q:=F;rw[<-j,aJ]at q;obtain⟨G,m,t⟩:=q;have hd:l.drop k=l[k]::l.drop (k+1):=qN h;have x:(l.map Prod.fst).getD k []=(l[k]).1:=by
  rw[qG,jP,zK h];rfl
 rw[x];have hm:l[k]∈l:=yJ h;have o:0<l.length:=by omega
 have i:l[0]∈l.take k:=by rw[List.mem_iff_getElem];exact⟨0,by simp;omega,by simp⟩
 have u:ltS (l[0]).1 (l[k]).1=true:=t _ i _ (by rw[hd];exact zJ ..);have v:=K6 (l.take k) (l.drop k);rw[j]at v;have J:=zC9 (f _ hm).2.2;have y:wU (l.take (k+1))=wU (l.take k)+(2+(l[k]).1.length+(l[k]).2.length):=by
  rw[qQ h];have:=K6 (l.take k) [l[k]];rw[xY,dK]at this;omega
 refine⟨⟨G,fun p hp=> ?_⟩,⟨m,fun p hp=> ?_⟩,⟨(f _ hm).2.2.1,zLA (f _ (yJ o)).1 u,(f _ hm).2.1⟩,j, ?_, ?_, ?_, ?_⟩
 .exact⟨(f p (List.mem_of_mem_take hp)).1,t p hp _ (by rw[hd];exact zJ ..),(f p (List.mem_of_mem_take hp)).2.2⟩
 .refine⟨?_,(f p (List.mem_of_mem_drop hp)).2⟩;rw[hd]at hp m;rcases zO.1 hp with rfl | hp
  .exact .inl rfl
  .exact .inr (m.1 p hp)
 .intro e;rw[e]at i;simp at i
 .rw[hd];exact List.cons_ne_nil _ _
 .rcases k3 with rfl | k3
  .have K:wU (l.take 1)<=244:=by
    have:=zC9 (f _ (yJ o)).2.2
    match l,o with
    | p::l,_=>simp only[List.take_succ_cons,List.take_zero,xY,dK];simp only[List.getElem_cons_zero]at this;omega
   omega
  .omega
 .rcases k4 with k4 | k4
  .have:l.drop (k+1)=[]:=qS (by omega);rw[hd,this,xY,dK];omega
  .rw[y]at k4;omega
theorem BV (ks:List Str){k:Nat}(h:k<ks.length):sumL (ks.take (k+1))=sumL (ks.take k)+(1+(ks[k]).length):=by
 rw[qQ h,Nd.sumL_append,Nd.sumL_cons,sumL_nil];omega
theorem XK {s:Str}(h:mayK s=true):s.length<=40:=by
 simp only[mayK,zF,zQ]at h;omega
theorem zH4 {lo hi:Bd}{t a b:Tr (w+1)}{s:Str}(K:Inn (WF w) lo hi t)(p:wX t.1 t.2.length<=785)(hb:500<wX t.1 t.2.length)(L:zMZ (w+1) t a s b):
  Inn (WF w) lo (some s) a/\Inn (WF w) (some s) hi b/\(mayK s=true/\zBV lo s/\hiB hi s)/\con (w+1) a++con (w+1) b=con (w+1) t/\160<=wX a.1 a.2.length/\160<=wX b.1 b.2.length/\wX a.1 a.2.length<=500/\wX b.1 b.2.length<=500/\wX b.1 b.2.length<=wX t.1 t.2.length - (wX t.1 t.2.length - 2) / 2+57:=by
 obtain⟨k,⟨k1,k2,k3,k4⟩,rfl,rfl,rfl⟩:=L;obtain⟨ks,ts⟩:=t;obtain⟨f,v,m⟩:=K;have F:min (w+1+1) 2=2:=by omega
 simp only[WP,psz,wM,F]at k2 k3 k4 f v m p hb⊢;have j:k<ks.length:=by omega
 have C:=m.len;have G:ks.getD k []=ks[k]:=by rw[qG,zK j];rfl
 rw[G];have y:=zK j;have hm:ks[k]∈ks:=yJ j;have z:ks.take k++ks[k]::ks.drop (k+1)=ks:=by rw[<-qN j,qV]
 have hr:=v;rw[<-z,uY,Nd.rising_cons]at hr;obtain⟨M,⟨N,I⟩,J⟩:=hr;have T:sumL ks=sumL (ks.take k)+(1+(ks[k]).length+sumL (ks.drop (k+1))):=by
  conv=>lhs;rw[<-z]
  rw[Nd.sumL_append,Nd.sumL_cons]
 have W:=XK (f _ hm).1;have O:=BV ks j;have Q:(ts.take (k+1)).length=k+1:=by rw[qC];omega
 have S:(ts.drop (k+1)).length=ks.length - k:=by rw[qJ];omega
 rw[Q,S];have u:k+1<ks.length:=by omega
 have U:=XK (f _ (yJ u)).1;have V:sumL (ks.drop (k+1))=1+(ks[k+1]).length+sumL (ks.drop (k+2)):=by rw[qN u,Nd.sumL_cons]
 have q:k=1->sumL (ks.take k)<=41:=fun e=>by
  subst e;have:=BV ks (k:=0) (by omega);have Y:=XK (f _ (yJ (show 0<ks.length by omega))).1;rw[this];simp only[List.take_zero,sumL_nil];omega
 have o:k+2=ks.length->sumL (ks.drop (k+2))=0:=fun e=>by rw[e,List.drop_length];rfl
 simp only[wX]at k3 k4 p hb⊢;rw[O]at k4;rw[C]at p hb k3 k4;refine⟨⟨fun x i=>⟨(f x (List.mem_of_mem_take i)).1,(f x (List.mem_of_mem_take i)).2.1,J x i _ (zJ ..)⟩,M,m.take y⟩,⟨fun x i=>⟨(f x (List.mem_of_mem_drop i)).1,N x i,(f x (List.mem_of_mem_drop i)).2.2⟩,I,m.drop y⟩,f _ hm, ?_, ?_, ?_, ?_, ?_, ?_⟩
 .simp only[con,<-jK,qV]
 .rcases k4 with k4 | k4
  .have:=o k4;omega
  .omega
 .rcases k3 with rfl | k3
  .have:=q rfl;omega
  .omega
 .rcases k3 with rfl | k3
  .have:=q rfl;omega
  .omega
 .rcases k4 with k4 | k4
  .have:=o k4;omega
  .omega
 .rcases k4 with k4 | k4
  .have:=o k4;omega
  .omega
inductive Cuts (h:Nat):Tr h->List (Tr h)->List Str->Prop
 | one {t:Tr h} :wM h t<=500->Cuts h t [t] []
 | more {t a b:Tr h} {s:Str} {ps:List (Tr h)} {ss:List Str} :500<wM h t->zMZ h t a s b->Cuts h b ps ss->Cuts h t (a::ps) (s::ss)
theorem zH5 {lo hi:Bd}{t a b:Tr k}{s:Str}(f:WX k lo hi t)(hb:500<wM k t)(p:zMZ k t a s b):
  WF k lo (some s) a/\WX k (some s) hi b/\Full k b/\(mayK s=true/\zBV lo s/\hiB hi s)/\con k a++con k b=con k t/\wM k b<=wM k t - (wM k t - 2) / 2+241:=by
 cases k with
 | zero=>
  obtain⟨i,b1,j,e,m,nb,o,q⟩:=zJ7 f.1 f.2 hb p;have u:=f.2;simp only[wM]at hb⊢;exact⟨⟨i,m,o⟩,⟨b1,by omega⟩,nb,j,e,q⟩
 | succ k=>
  obtain⟨i,b1,j,e,m,nb,o,_,q⟩:=zH4 f.1 f.2 hb p;have u:=f.2;simp only[wM]at hb⊢;exact⟨Gen.wf (h:=k+1) i m o,⟨b1,by omega⟩,nb,j,e,by omega⟩
theorem US {t:Tr k}{f:List (Tr k)}{q:List Str}(u:Cuts k t f q): ∀ {lo hi:Bd},WX k lo hi t->(Full k t\/500<wM k t)->
  Inn (WF k) lo hi (q,f)/\f.flatMap (con k)=con k t/\f.length<=6/\(wM k t<=635->f.length<=5)/\(wM k t<=560->f.length<=4)/\(wM k t<=522->f.length<=3)/\(wM k t<=503->f.length<=2)/\(wM k t<=500->f.length<=1):=by
 induction u with
 | one m=>
  intro lo hi o p;rcases p with p | p
  .refine⟨⟨by simp,rfl,o.gen.wf p m⟩,by simp,by simp, ?_⟩;simp
  .omega
 | @more t a b s f q hb u _ ih=>
  intro lo hi o _;obtain⟨C,F,G,m,e,z⟩:=zH5 o hb u;obtain⟨⟨i,v,y⟩,I,K⟩:=ih F (.inl G);have L:=o.sz;simp only at i v y;refine⟨⟨fun h j=> ?_, ?_,C,y⟩, ?_, ?_⟩
  .rcases zO.1 j with rfl | j
   .exact m
   .exact⟨(i h j).1,K7 m.2.1 (.inr (i h j).2.1),(i h j).2.2⟩
  .rw[Nd.rising_cons];exact⟨fun x J=>(i x J).2.1,v⟩
  .rw[qL,I,e]
  .simp only[zY];omega
theorem QE {ks:List Str}(h: ∀k∈ks,mayK k=true):sumL ks<=41*ks.length:=by
 induction ks with
 | nil=>simp[sumL]
 | cons k ks ih=>
  have:=XK (h k (zJ ..));have:=ih fun x a=>h x (zE _ a)
  rw[Nd.sumL_cons,zY];omega
theorem zIv {lo hi:Bd}{ks a:List Str}{ts f:List (Tr k)}{x:Tr k}(j:Inn (WF k) lo hi (ks,ts))(hm:w+t<ts.length)(o:WX k (WK lo ks w) (Q9 ks hi (w+t)) x)(p:Full k x)(q:Cuts k x f a):
  Inn (WF k) lo hi (ks.take w++a++ks.drop (w+t),ts.take w++f++ts.drop (w+t+1))/\
  con (k+1) (ks.take w++a++ks.drop (w+t),ts.take w++f++ts.drop (w+t+1))=(ts.take w).flatMap (con k)++con k x++(ts.drop (w+t+1)).flatMap (con k)/\
  wX (ks.take w++a++ks.drop (w+t)) (ts.take w++f++ts.drop (w+t+1)).length<=wX ks ts.length+285/\ks.length<=(ks.take w++a++ks.drop (w+t)).length+t:=by
 obtain⟨c1,c2,c3,_⟩:=US q o (.inl p);have s:=j.2.2.len;have i:=c1.2.2.len;simp only at s i;refine⟨j.splice hm c1, ?_, ?_, ?_⟩
 .simp only[con,jK,c2]
 .have u:=QE fun h v=>(c1.1 h v).1
  simp only at u;have e:sumL (ks.take w)+sumL (ks.drop (w+t))<=sumL ks:=by
   have y:sumL ks=sumL (ks.take w)+sumL (ks.drop w):=by rw[<-Nd.sumL_append,qV]
   have z:sumL (ks.drop w)=sumL ((ks.drop w).take t)+sumL (ks.drop (w+t)):=by rw[<-List.drop_drop,<-Nd.sumL_append,qV]
   omega
  simp only[wX,zV,qC,qJ,Nd.sumL_append];omega
 .simp only[zV,qC,qJ];omega
theorem zAG {a b:Tr k}{s:Str}(i:s.length<=40)(f:Full k a\/Full k b):Full k (ZP k a s b):=by
 cases k with
 | zero=>
  intro e;have e:List.append (α:=Str×Str) a b=[]:=e;rcases f with f | f
  .exact f (List.append_eq_nil_iff.1 e).1
  .exact f (List.append_eq_nil_iff.1 e).2
 | succ k=>
  have:=KC (k+1) a s b i;simp only[wM]at this;show 160<=wX _ _;rcases f with f | f
  .have f:160<=wX a.1 a.2.length:=f;omega
  .have f:160<=wX b.1 b.2.length:=f;omega
theorem ZI {lo hi:Bd}{t:Tr (k+1)}(a:WF (k+1) lo hi t):3<=t.1.length:=by
 obtain⟨⟨f,_,i⟩,_,j,_⟩:=a;have hl:=i.len;have:=QE fun h m=>(f h m).1
 simp only[wX]at j;omega
theorem zIG {lo hi:Bd}{l:Kvs}{k v:Str}(f:Lf lo hi l)(hl:zFT lo k)(j:hiB hi k)(h:mayK k=true)(i:v.length<=200):Lf lo hi (putP k v l)/\wU (putP k v l)<=wU l+242:=by
 refine⟨⟨Nd.srt_put _ _ f.1,fun p hp=> ?_⟩, ?_⟩
 .rcases Nd.mem_put hp with rfl | hp
  .exact⟨hl,j,h,i⟩
  .exact f.2 p hp
 .have m:=zC9 (p:=(k,v)) ⟨h,i⟩;simp only at m;clear f
  induction l with
  | nil=>simp only[putP,xY,dK];omega
  | cons a l ih=>
   obtain⟨a,b⟩:=a;simp only[putP];split
   .simp only[xY];omega
   .split
    .simp only[xY];omega
    .simp only[xY];omega
theorem zIH {lo hi:Bd}{l:Kvs}(k:Str)(f:Lf lo hi l):Lf lo hi (delP k l)/\wU (delP k l)<=wU l:=by
 refine⟨⟨Nd.srt_del _ f.1,fun p hp=>f.2 p (Nd.mem_del hp)⟩, ?_⟩;clear f
 induction l with
 | nil=>exact zP _
 | cons a l ih=>
  obtain⟨a,b⟩:=a;simp only[delP];split
  .simp only[xY];omega
  .simp only[xY];omega
end Go.Bt
end
section
namespace Go.Ex
open Go.Nd (Str)
def over (b:Str)(f:Nat)(s:Str):Str:=b.take f++s++b.drop (f+s.length)
end Go.Ex
namespace Go.Bk
open Go.Nd (Str be)
def zBG (u:Nat):Str->Nat
 | []=>u
 | b::l=>zBG (Nat.xor u b.toNat*1099511628211 % 18446744073709551616) l
theorem VT: ∀(s:Str) (u:Nat),u<18446744073709551616->zBG u s<18446744073709551616
 | [],_,h=>h
 | _::l,_,_=>VT l _ (Nat.mod_lt _ (by omega))
theorem BX: ∀(s:Str) (b:UInt8) (u:Nat),zBG u (s++[b])=Nat.xor (zBG u s) b.toNat*1099511628211 % 18446744073709551616
 | [],_,_=>rfl
 | _::l,b,_=>BX l b _
def sumS (s:Str):Nat:=zBG 14695981039346656037 s
theorem zKZ (s:Str):sumS s<18446744073709551616:=VT _ _ (by omega)
def u6:Str:=[106,116,116,121]
def UH (kind:UInt8)(birth:Nat)(n:Nat):Str:=u6++([kind,0]++(be 2 n++be 4 birth))
def sealB (kind:UInt8)(birth:Nat)(body:Str):Str:=UH kind birth body.length++(body++List.replicate (500 - body.length) 0)
theorem KF (kind:UInt8)(birth n:Nat):(UH kind birth n).length=12:=by simp[UH,u6,Nd.be_length]
theorem sealB_len {kind:UInt8}{birth:Nat}{body:Str}(h:body.length<=500):(sealB kind birth body).length=512:=by
 simp[sealB,KF];omega
end Go.Bk
namespace Go.Eng
open Go.Nd (Str)
theorem zCu: ∀(n:Nat) (l:List AV),n<=l.length->takeN n l=some (l.take n)
 | 0,_,_=>rfl
 | n+1,[],h=>by simp at h
 | n+1,a::l,h=>by
  have f:=zCu n l (by simpa using h);simp only[takeN,f,List.take_succ_cons]
theorem zOd {off m cc:Nat}{b s:Str}(h:H.h.get k=some (.cells (jT b) w 1 M))(a:H.ok)(hm:off+m<=b.length):
  ∃H',cpy 1 (.slice k off m cc) (S s) H=some (.int .i64 (min s.length m:Nat),H')/\H'.h.get k=some (.cells (jT (Ex.over b off (s.take (min s.length m)))) w 1 M)/\Stp (fun B=>B=k) H H':=by
 obtain⟨n,j⟩: ∃n,n=min s.length m:=⟨_,rfl⟩;rw[<-j];have p:n<=s.length:=by omega
 have o:Nat.min s.length m=n:=j.symm;have t:takeN (n*1) (jT s)=some (jT (s.take n)):=by
  rw[Nat.mul_one,zCu _ _ (by rw[jY];exact p),jT,jT,List.map_take]
 have u:jV (jT (s.take n))=true:=by
  rw[wK];intro x v;obtain⟨b,_,rfl⟩:=qM.1 v;rfl
 have y:setAt (jT b) off (jT (s.take n))=some (jT (Ex.over b off (s.take n))):=by
  have hl:(s.take n).length=n:=by rw[qC];omega
  rw[xL (by rw[jY,jY,hl];omega)];have q:(jT (s.take n)).length=n:=by rw[jY,hl]
  rw[q,Ex.over,hl];simp only[jT,List.map_append,List.map_drop];rw[List.map_take (f:=fun c:UInt8=>AV.int .u8 c.toNat) (l:=b) (i:=off)]
 refine⟨_, ?_, ?_,(zOJ a).put (a.lt h) (.cells (jT (Ex.over b off (s.take n))) w 1 M) (.inr rfl)⟩
 .simp only[cpy,zBH,o,t,u,zU,h,show Nat.blt 0 1=true from rfl,y,wR,kI];rfl
 .rw[zOF,if_pos rfl]
theorem zIj {n A lo hi:Nat}(j:lo<=hi)(m:hi<=n)(s:lo<n)(κ a:IntKind):xM n 1 (.ptr A 0) (some (.int κ (lo:Nat))) (some (.int a (hi:Nat))) none=some (.slice A lo (hi - lo) (2*(n - lo))):=by
 have f:=kQ κ (z:=(lo:Int)) (by omega);have i:=kQ a (z:=(hi:Int)) (by omega);simp only[yI]at f i;have b1:Nat.ble lo hi=true:=by rw[qT];exact j
 have b2:Nat.ble hi n=true:=by rw[qT];exact m
 have o:Nat.beq n lo=false:=by rw[yA];intro h;have:=Nat.eq_of_beq_eq_true h;omega
 have p:((2*n) % 2).beq 0=true:=by rw[jE];rfl
 have q:2*n / 2=n:=yV n (by omega);simp[xM,kX,f,i,YQ,b1,b2,p,o,q,kI,show Nat.blt 0 1=true from rfl]
theorem zBj {a b:Nat}(f:a<18446744073709551616)(hb:b<256):kO .xor (.int .u64 a) (.int .u64 (b:Int))=some (.int .u64 (Nat.xor a b:Nat))/\Nat.xor a b<18446744073709551616:=by
 have h:Nat.blt a (YX .u64)=true:=by rw[qD];exact f
 have i:Nat.blt b (YX .u64)=true:=by rw[qD];exact Nat.lt_trans hb (by decide)
 have hl:Nat.xor a b<18446744073709551616:=Nat.xor_lt_two_pow (n:=64) f (Nat.lt_trans hb (by decide));have j:keq .u64 .u64=true:=rfl;have h5:IntKind.wrap .u64 ((Nat.xor a b:Nat):Int)=((Nat.xor a b:Nat):Int):=by rw[wrap_u64];omega
 have m:aZ .xor .u64 (.ofNat a) (.ofNat b)=some (.int .u64 (Nat.xor a b:Nat)):=by
  simp only[aZ,IntKind.signed,Bool.not_false,h,i,qO,zU,vZ,Int.ofNat_eq_natCast,h5]
 have o:kO .xor (.int .u64 (.ofNat a)) (.int .u64 (.ofNat b))=aZ .xor .u64 (.ofNat a) (.ofNat b):=by simp only[kO,bO,j,zU]
 exact⟨o.trans m,hl⟩
theorem zNL (s:Str)(i:IntKind)(h:k<s.length):KD (S s) (.int i (k:Int))=some (.int .u8 ((s[k]).toNat:Nat)):=by
 have:=UF s i (z:=(k:Int)) (by omega) (by simpa using h);simpa using this
theorem W5: ∀(b:Str),uI (List.replicate b.length 7) (jT b) (jT b)=some true
 | []=>rfl
 | x::b=>by
  have h:=Y1 .u8 (x.toNat:Int) (x.toNat:Int);have e:aS .u8=7:=rfl;rw[e,decide_eq_true rfl]at h;simp only[zY,List.replicate_succ,jT,yK,uI,h];exact W5 b
theorem zMd {b:Str}(h:b.length=k):eqA (List.replicate k 7) (.agg (jT b)) (.agg (jT b))=some true:=by
 subst h;have a:=zFX (jT b);rw[jY]at a;have f:(List.replicate b.length 7).length=b.length:=List.length_replicate;simp only[eqA,a,f,Nat.add_zero,yO,qO,zU,W5]
end Go.Eng
namespace Go.Eng.Sh
open Go.Nd (Ptr Str be)
open Go.Bk
theorem zOk (H:AH){s:Str}(a:H.ok)(g:H.h.get k=some (.cells (jT s) w 1 false))(hl:s.length=t):zDl (.slice k 0 t (2*t)) H=some (S s):=
 J2 (n:=t) ⟨by rw[jY,hl,Nat.mul_one], .inr (.inr ⟨_,_,_,_,_,_,_,rfl,g,a.lt g,by rw[jY,hl];omega,by
  rw[yD,zZ (by rw[jY,hl];omega)]⟩)⟩ (by simp)
theorem st1d (a:H.ok){o:Nat}{x:AV}(h:H.h.get k=some (.cells l w 1 false))(f:Eng.isCell x=true)(i:o<l.length): ∃H',stN 1 (.ptr k o) x H=some (jU,H')/\H'.h.get k=some (.cells (l.set o x) w 1 false)/\Stp (fun B=>B=k) H H':=
 ⟨_,cU h (by decide) f i,by rw[zOF,if_pos rfl],(zOJ a).put (a.lt h) _ (.inr rfl)⟩
theorem zJW (x:AV): ∀n,rep n [x]=List.replicate n x
 | 0=>rfl
 | n+1=>by rw[rep,zJW x n,List.replicate_succ];rfl
theorem dB (n:Nat):rep n [AV.int .u8 (0:Nat)]=jT (List.replicate n 0):=by
 rw[zJW];simp[jT]
theorem bytesV_cells (b:Str):jV (jT b)=true:=by
 rw[wK];intro x a;obtain⟨b,_,rfl⟩:=qM.1 a;rfl
theorem xN (h:H.h.get k=some (.cells l w 1 M))(hl:l.length=t):ldN t (.ptr k 0) H=some (.agg l):=by
 rw[jW h,kZ _ _ _ (.inr (by omega)),yD,<-hl,jG];rfl
theorem stR (j:H.ok){b a:Str}(h:H.h.get k=some (.cells (jT b) w 1 false))(f:b.length=t)(m:a.length=t):
  ∃H',stN t (.ptr k 0) (.agg (jT a)) H=some (jU,H')/\H'.h.get k=some (.cells (jT a) w 1 false)/\Stp (fun B=>B=k) H H':=by
 obtain⟨H',i,o,p,_⟩:=kE j h (l':=jT a) (by rw[jY,jY,f,m]) (bytesV_cells a);rw[jY,f]at i;exact⟨H',i,o,p⟩
theorem ldR {b:Str}(h:H.h.get k=some (.cells (jT b) w 1 M))(a:b.length=t):ldN t (.ptr k 0) H=some (.agg (jT b)):=xN h (by rw[jY,a])
theorem zMh{H:AH}(s:Str)(t:s.length<n)(u:s.length<=1000000000):f225 D n [S s] H=some (.int .u64 (sumS s:Nat),H):=by
 have m:kL n (zAN D n) [.int .u64 (14695981039346656037:Nat),S s, .int .i64 s.length, .int .i64 (0:Nat)] H=some (.exit 0 [.int .u64 (sumS s:Nat)],H):=by
  refine fK (fun i=>[.int .u64 (sumS (s.take i):Nat),S s, .int .i64 s.length, .int .i64 ((i:Nat):Int)]) s.length (fun i hi=> ?_) (fun k=> ?_) n (by omega)
  .have hl:sumS (s.take i)<18446744073709551616:=VT _ _ (by omega);have o:=zNL s .i64 hi;have v:=(s[i]).toNat_lt;obtain⟨f,q⟩:=zBj (a:=sumS (s.take i)) (b:=(s[i]).toNat) hl (by omega);have p:IntKind.wrap .u64 (((s[i]).toNat:Nat):Int)=(((s[i]).toNat:Nat):Int):=by rw[wrap_u64];omega
   have h:kO .mul (.int .u64 ((Nat.xor (sumS (s.take i)) (s[i]).toNat:Nat):Int)) (.int .u64 (1099511628211:Nat))=some (.int .u64 ((sumS (s.take (i+1)):Nat):Int)):=by
    rw[zDA,wrap_u64,qQ hi];have e:sumS (s.take i++[s[i]])=Nat.xor (sumS (s.take i)) (s[i]).toNat*1099511628211 % 18446744073709551616:=BX _ _ _;rw[e,Int.natCast_emod,Int.natCast_mul];rfl
   have j:((i:Nat):Int)< (s.length:Int):=by omega
   have hi1:((i:Nat):Int)+((1:Nat):Int)=((i+1:Nat):Int):=by omega
   simp(maxSteps:=999999)(disch:=omega) only[zAN,eZ,j,o,p,f,h,hi1]
  .refine kD ?_;simp only[zAN,eZ,yY,jG]
 simp only[f225,f230,eZ,QP,m,zKg]
theorem zCf(p:1000<=n){H:AH}(j:H.ok){b:Str}(hb:b.length=512): ∃H',f208 D n [.agg (jT b)] H=some (.int .u64 (sumS b:Nat),H')/\Prs H H':=by
 obtain⟨a,f,b1,h,m,q,s⟩:=box j (.cells (jT b) 55 1 false);have o:xM 512 1 (.ptr f 0) none none none=some (.slice f 0 512 1024):=rfl;have i:zDl (.slice f 0 512 1024) a=some (S b):=zOk a h.ok m hb;have e:=zMh D n (H:=a) b (by omega) (by omega);refine⟨a, ?_,h⟩;simp(maxSteps:=999999)(disch:=omega) only[f208,eZ,b1,o,i,e]
theorem zFh(hn:1000<=n)(W:H.ok)(kind:UInt8)(hb:w<=2147483647){body:Str}(hl:body.length<=500):
  ∃H',zM5 D n [.int .u8 kind.toNat, .int .i64 w,S body] H=some (.tuple [.agg (jT (sealB kind w body)), .int .i64 (0:Nat)],H')/\Prs H H':=by
 obtain⟨Z,C⟩: ∃Z:Str,Z=List.replicate 512 0:=⟨_,rfl⟩;have Q:Z.length=512:=by rw[C];simp
 have T:rep 512 [AV.int .u8 (0:Nat)]=jT Z:=by rw[dB,C]
 obtain⟨H1,A6,b1,q,g1,m1,n1⟩:=box W (.cells (jT Z) 55 1 false);obtain⟨H2,a,b2,t,g2,m2,n2⟩:=box q.ok (.cells (jT Z) 55 1 false);have N1:=q.next;have N2:=t.next
 have t1: ¬(w:Int)< ((0:Nat):Int):=by omega
 have t2: ¬((2147483647:Nat):Int)< (w:Int):=by omega
 have t3: ¬((500:Nat):Int)< (body.length:Int):=by omega
 have s0:xM 512 1 (.ptr a 0) none none none=some (.slice a 0 512 1024):=rfl;have s1:xM 512 1 (.ptr a 0) (some (.int .i64 (6:Nat))) (some (.int .i64 (8:Nat))) none=some (.slice a 6 2 1012):=rfl;have s2:xM 512 1 (.ptr a 0) (some (.int .i64 (8:Nat))) (some (.int .i64 (12:Nat))) none=some (.slice a 8 4 1008):=rfl;have s3:xM 512 1 (.ptr a 0) (some (.int .i64 (12:Nat))) none none=some (.slice a 12 500 1000):=rfl;have ix:vU 512 1 (.ptr a 0) (.int .i64 (4:Nat))=some (.ptr a 4):=rfl;have hm:(AV.str 4 2037675114)=S u6:=rfl;obtain⟨H3,u,F,st3⟩:=zOd (off:=0) (m:=512) (cc:=1024) (s:=u6) g2 t.ok (by omega);have O:min u6.length 512=4:=rfl;rw[O]at u F;have o3:Ex.over Z 0 (u6.take 4)=u6++(0::List.replicate 507 0):=by
  rw[C];rfl
 rw[o3]at F;obtain⟨H4,e4,I,st4⟩:=st1d st3.ok F (o:=4) (x:= .int .u8 kind.toNat) rfl (by rw[jY];simp[u6]);have o4:(jT (u6++(0::List.replicate 507 0))).set 4 (.int .u8 kind.toNat)=jT ((u6++[kind,0])++List.replicate 506 0):=by
  simp[jT,u6,List.replicate_succ]
 rw[o4]at I;obtain⟨H5,e5,J,i,_⟩:=zFy D n st4.ok (off:=6) (k:=2) (cc:=1012) body.length I (by rw[jY];simp[u6]) (by omega) (by omega);have o5:(jT ((u6++[kind,0])++List.replicate 506 0)).take 6++(jT (be 2 body.length)++(jT ((u6++[kind,0])++List.replicate 506 0)).drop (6+2))=jT ((u6++([kind,0]++be 2 body.length))++List.replicate 504 0):=by
  simp[jT,u6,List.replicate_succ]
 rw[o5]at J;obtain⟨H6,e6,K,j,_⟩:=zFy D n i.ok (off:=8) (k:=4) (cc:=1008) w J (by rw[jY];simp[u6,Nd.be_length]) (by omega) (by omega);have v:(u6++([kind,0]++be 2 body.length)).length=8:=by simp[u6,Nd.be_length]
 have o6:(jT ((u6++([kind,0]++be 2 body.length))++List.replicate 504 0)).take 8++(jT (be 4 w)++(jT ((u6++([kind,0]++be 2 body.length))++List.replicate 504 0)).drop (8+4))=jT (UH kind w body.length++List.replicate 500 0):=by
  obtain⟨Y,L⟩: ∃Y,Y=u6++([kind,0]++be 2 body.length):=⟨_,rfl⟩;rw[<-L]at v⊢;have e1:(jT (Y++List.replicate 504 0)).take 8=jT Y:=by
   simp only[jT,List.map_append];rw[jD (by rw[jH,v])]
  have e2:(jT (Y++List.replicate 504 0)).drop 12=jT (List.replicate 500 0):=by
   simp only[jT,List.map_append];rw[show 12=8+4 from rfl,<-List.drop_drop,jA (by rw[jH,v])];simp
  have u:UH kind w body.length=Y++be 4 w:=by rw[L,UH];simp
  rw[e1,show 8+4=12 from rfl,e2,u];simp[jT]
 rw[o6]at K;have y:=KF kind w body.length;obtain⟨H7,M,G,p⟩:=zOd (off:=12) (m:=500) (cc:=1000) (s:=body) K j.ok (by simp[y]);have N:min body.length 500=body.length:=by omega
 rw[N]at M G;have o7:Ex.over (UH kind w body.length++List.replicate 500 0) 12 (body.take body.length)=sealB kind w body:=by
  rw[jG,Ex.over,jD y,show 12+body.length=12+body.length from rfl,<-List.drop_drop,jA y,List.drop_replicate,sealB,qH]
 rw[o7]at G;have M3:=st3.next;have M4:=st4.next;have M5:=i.next;have M6:=j.next;have M7:=p.next
 have z:=sealB_len (kind:=kind) (birth:=w) hl;have U:H7.h.get A6=some (.cells (jT Z) 55 1 false):=by
  rw[p.keep _ (by omega) (by omega),j.keep _ (by omega) (by omega),i.keep _ (by omega) (by omega),st4.keep _ (by omega) (by omega),st3.keep _ (by omega) (by omega)];exact zOM t q.ok g1
 obtain⟨H8,e8,g8,V⟩:=stR p.ok U Q z;have r8:=ldR G z;have r6:=ldR g8 z;have w1:IntKind.wrap .u64 (body.length:Int)=(body.length:Int):=by rw[wrap_u64];omega
 have w2:IntKind.wrap .u64 (w:Int)=(w:Int):=by rw[wrap_u64];omega
 refine⟨H8, ?_,(((((((q.trans t).fresh st3 fun B f=>by omega).fresh st4 fun B f=>by omega).fresh i fun B f=>by omega).fresh j fun B f=>by omega).fresh p fun B f=>by omega).fresh V fun B f=>by omega)⟩;simp(maxSteps:=999999)(disch:=omega) only[zM5,eZ,T,b1,t1,t2,QP,t3,b2,s0,hm,u,ix,e4,s1,QX,w1,e5,s2,w2,e6,s3,M,r8,e8,r6]
end Go.Eng.Sh
end
section
namespace Go.Bk
open Go.Nd (Str be bee)
theorem seal_parts {kind:UInt8}{birth:Nat}{body:Str} :((sealB kind birth body).drop 6).take 2=be 2 body.length/\((sealB kind birth body).drop 8).take 4=be 4 birth/\((sealB kind birth body).drop 12).take body.length=body/\(sealB kind birth body)[4]? =some kind:=by
 have a:sealB kind birth body=(u6++[kind,0])++(be 2 body.length++(be 4 birth++(body++List.replicate (500 - body.length) 0))):=by simp[sealB,UH]
 have f:sealB kind birth body=(u6++[kind,0]++be 2 body.length)++(be 4 birth++(body++List.replicate (500 - body.length) 0)):=by simp[sealB,UH]
 refine⟨?_, ?_, ?_, ?_⟩
 .rw[a,jA (by simp[u6]),jD (Nd.be_length _ _)]
 .rw[f,jA (by simp[u6,Nd.be_length]),jD (Nd.be_length _ _)]
 .rw[sealB,jA (KF _ _ _),jD rfl]
 .rw[a];simp[u6]
theorem seal_inj {k':UInt8}{s a:Str}(o:s.length<=500)(m:a.length<=500)(e:sealB U k s=sealB k' k a):U=k'/\s=a:=by
 obtain⟨q1,_,q3,f⟩:=seal_parts (kind:=U) (birth:=k) (body:=s);obtain⟨h,_,i,j⟩:=seal_parts (kind:=k') (birth:=k) (body:=a);rw[e]at q1 q3 f;rw[h]at q1;have hl:=congrArg bee q1;rw[Nd.bee_be,Nd.bee_be,Nat.mod_eq_of_lt (by omega),Nat.mod_eq_of_lt (by omega)]at hl;rw[<-hl,i]at q3;rw[j]at f;exact⟨(yG f).symm,q3.symm⟩
end Go.Bk
namespace Go.Eng.Sh
open Go.Nd (Ptr Str be bee)
open Go.Bk
theorem rowB (a:H.ok){lo k cc:Nat}{b:Str}(g:H.h.get w=some (.cells (jT b) t 1 false))(h:lo+k<=b.length):Rw 1 H (.slice w lo k cc) k (jT ((b.drop lo).take k)):=
 ⟨by rw[jY,qC,qJ];omega, .inr (.inr ⟨_,_,_,_,_,_,_,rfl,g,a.lt g,by rw[jY];omega,by
  rw[Nat.mul_one];simp[jT,List.map_take,List.map_drop]⟩)⟩
theorem zFI(T:1000<=n)(U:H.ok)(kind:UInt8)(hb:w<=2147483647){body:Str}(hl:body.length<=500):
  ∃H',f209 D n [.agg (jT (sealB kind w body))] H=some (.tuple [.int .u8 kind.toNat, .int .i64 w,S body, .int .i64 (0:Nat)],H')/\Prs H H':=by
 obtain⟨B,q⟩: ∃B,B=sealB kind w body:=⟨_,rfl⟩;obtain⟨q1,q2,q3,s⟩:=seal_parts (kind:=kind) (birth:=w) (body:=body);have i:=sealB_len (kind:=kind) (birth:=w) hl;rw[<-q]at q1 q2 q3 s i⊢;obtain⟨m,a,b1,f,j,m1,n1⟩:=box U (.cells (jT B) 55 1 false);have V:xM 512 1 (.ptr a 0) (some (.int .i64 (6:Nat))) (some (.int .i64 (8:Nat))) none=some (.slice a 6 2 1012):=rfl;have W:xM 512 1 (.ptr a 0) (some (.int .i64 (8:Nat))) (some (.int .i64 (12:Nat))) none=some (.slice a 8 4 1008):=rfl;have Y:xM 512 1 (.ptr a 0) (some (.int .i64 (12:Nat))) (some (.int .u64 (12+body.length:Nat))) none=some (.slice a 12 body.length 1000):=by
  have:=zIj (n:=512) (A:=a) (lo:=12) (hi:=12+body.length) (by omega) (by omega) (by omega) .i64 .u64;rw[this,show 12+body.length - 12=body.length by omega]
 have ix:vU 512 1 (.ptr a 0) (.int .i64 (4:Nat))=some (.ptr a 4):=rfl;have t:=rowB (cc:=1012) f.ok j (lo:=6) (k:=2) (by omega);have u:=rowB (cc:=1008) f.ok j (lo:=8) (k:=4) (by omega);have v:=rowB (cc:=1000) f.ok j (lo:=12) (k:=body.length) (by omega);rw[q1]at t;rw[q2]at u;rw[q3]at v;have J:Rw 1 m (.slice a 6 2 1012) (be 2 body.length).length (jT (be 2 body.length)):=by rw[Nd.be_length];exact t
 have K:Rw 1 m (.slice a 8 4 1008) (be 4 w).length (jT (be 4 w)):=by rw[Nd.be_length];exact u
 have x:=zAF D n J (by rw[Nd.be_length];omega) (by omega);have y:=zAF D n K (by rw[Nd.be_length];omega) (by omega);rw[Nd.bee_be,Nat.mod_eq_of_lt (by omega)]at x;rw[Nd.bee_be,Nat.mod_eq_of_lt (by omega)]at y;have L:zDl (.slice a 12 body.length 1000) m=some (S body):=J2 v (by simp);have r4:Eng.ld1 (.ptr a 4) m=some (.int .u8 kind.toNat):=wO j (by
  rw[jT,jP,s];rfl)
 obtain⟨H2,z,o⟩:=zFh D n T f.ok kind hb hl;rw[<-q]at z;obtain⟨Z,C⟩: ∃Z:Str,Z=List.replicate 512 0:=⟨_,rfl⟩;have M:Z.length=512:=by rw[C];simp
 have N:rep 512 [AV.int .u8 (0:Nat)]=jT Z:=by rw[dB,C]
 obtain⟨H3,A7,b3,p,g3,m3,n3⟩:=box o.ok (.cells (jT Z) 55 1 false);obtain⟨F,e4,g4,G⟩:=stR p.ok g3 M i;have N2:=o.next;have N3:=p.next
 have O:F.h.get a=some (.cells (jT B) 55 1 false):=by
  rw[G.keep _ (by omega) (by omega)];exact zOM (o.trans p) f.ok j
 have r7:=ldR g4 i;have r1:=ldR O i;have he:gK .neq (eqA (List.replicate 512 7) (.agg (jT B)) (.agg (jT B)))=some (.bool false):=by rw[zMd i];rfl
 have t1: ¬((500:Nat):Int)< (body.length:Int):=by omega
 have wi:IntKind.wrap .i64 (w:Int)=(w:Int):=wrap_i64 (by omega) (by omega);have I:((12:Nat):Int)+(body.length:Int)=((12+body.length:Nat):Int):=by omega
 have wu:IntKind.wrap .u64 ((12+body.length:Nat):Int)=((12+body.length:Nat):Int):=by rw[wrap_u64];omega
 have Q: ¬(((0:Nat):Int)≠((0:Nat):Int)):=by omega
 refine⟨F, ?_,((f.trans o).trans p).fresh G fun B q=>by omega⟩;simp(maxSteps:=999999)(disch:=omega) only[f209,eZ,b1,V,x,t1,ix,r4,W,y,QX,wi,I,wu,Y,L,z,jS,nth,N,b3,e4,Q,r7,r1,he]
def bN (at_:Nat)(birth:Nat)(b:Str):Ptr:=⟨(at_:Int),(birth:Int),((sumS b:Nat):Int)⟩
theorem zJg(q:1000<=n)(L:H.ok)(kind:UInt8){at_:Nat}(Z:1<=at_)(hb:k<=2147483647){body:Str}(hl:body.length<=500):
  ∃H',f171 D n [.agg (jX (bN at_ k (sealB kind k body))), .agg (jT (sealB kind k body))] H=some (.tuple [.int .u8 kind.toNat,S body, .int .i64 (0:Nat)],H')/\Prs H H':=by
 obtain⟨B,s⟩: ∃B,B=sealB kind k body:=⟨_,rfl⟩;have i:=sealB_len (kind:=kind) (birth:=k) hl;rw[<-s]at i;obtain⟨H1,j,b1,o,M,m1,n1⟩:=box L (.cells (jX (bN at_ k B)) 42 1 false);obtain⟨t,A3,b2,a,u,m2,n2⟩:=box o.ok (.cells (jT B) 55 1 false);obtain⟨N,O,f⟩:=zCf D n q a.ok i;obtain⟨v,x,y⟩:=zFI D n q f.ok kind hb hl;rw[<-s]at x⊢;have m:=zOM a o.ok M;have p:=zOM f a.ok m;have z:=zOM f a.ok u;have C:=zOM y f.ok p;have Q:Eng.ld1 (.ptr j 0) t=some (.int .i64 at_):=by rw[jR m];rfl
 have T:Eng.ld1 (.ptr j 2) t=some (.int .u64 (sumS B:Nat)):=by rw[jR m];rfl
 have F:Eng.ld1 (.ptr j 2) N=some (.int .u64 (sumS B:Nat)):=by rw[jR p];rfl
 have G:Eng.ld1 (.ptr j 1) v=some (.int .i64 k):=by rw[jR C];rfl
 have U:=ldR u i;have I:=ldR z i;have t0: ¬(at_:Int)=((0:Nat):Int):=by omega
 have J: ¬(((0:Nat):Int)≠((0:Nat):Int)):=by omega
 have V: ¬(((sumS B:Nat):Int)≠((sumS B:Nat):Int)):=fun h=>h rfl
 have W: ¬((k:Int)≠(k:Int)):=fun h=>h rfl
 have Y: ∀K:Rs,chk (some (.int .u64 (sumS B:Nat))) (.int .u64 (sumS B:Nat)) K=K:=fun K=>kY rfl (by simp[aveq,xQ,xS])
 refine⟨v, ?_,((o.trans a).trans f).trans y⟩;simp(maxSteps:=999999)(disch:=omega) only[f171,eZ,b1,b2,Q,t0,U,T,O,F,Y,V,I,x,jS,nth,J,G,W]
end Go.Eng.Sh
end
section
namespace Go.Eng
theorem cq:(∀A o,gK .eql (eqP (.ptr A o) .nP)=some (.bool false))/\gK .eql (eqP .nP .nP)=some (.bool true)/\(∀M,gK .eql (eqM (.map M) .nM)=some (.bool false))/\(∀A o,gK .neq (eqP (.ptr A o) .nP)=some (.bool true))/\gK .neq (eqP .nP .nP)=some (.bool false):=
 ⟨fun _ _=>rfl,rfl,fun _=>rfl,fun _ _=>rfl,rfl⟩
end Go.Eng
namespace Go.Bk
open Go.Nd (Str)
abbrev Ws:=List (Nat×Str)
def QS (n:Nat):Ws->Option Nat
 | []=>none
 | (a,_)::l=>match QS n l with
  | some i=>some (i+1)
  | none=>if a=n then some 0 else none
theorem QR (n a:Nat)(b:Str): ∀l:Ws,QS n (l++[(a,b)])=if a=n then some l.length else QS n l
 | []=>by simp[QS]
 | (c,d)::l=>by
  simp only[qF,QS,QR n a b l];by_cases e:a=n
  .simp[e]
  .simp[e]
theorem YW {n:Nat} : ∀ {l:Ws} {i:Nat},QS n l=some i-> ∃h:i<l.length,(l[i]).1=n
 | (a,b)::l,i,h=>by
  simp only[QS]at h
  cases hl:QS n l with
  | some j=>
   rw[hl]at h;simp only[zC]at h;subst h;obtain⟨f,m⟩:=YW hl;exact⟨by simpa using f,by simpa using m⟩
  | none=>
   rw[hl]at h;simp only at h;by_cases e:a=n
   .rw[if_pos e]at h;cases h;exact⟨by simp,e⟩
   .rw[if_neg e]at h;cases h
def blkAt (n:Nat)(l:Ws):Option Str:=(QS n l).bind fun i=>(l[i]?).map (·.2)
theorem cL (n a:Nat)(b:Str)(l:Ws):blkAt n (l++[(a,b)])=if a=n then some b else blkAt n l:=by
 rw[blkAt,QR];by_cases e:a=n
 .rw[if_pos e,if_pos e];simp
 .rw[if_neg e,if_neg e,blkAt]
  cases hl:QS n l with
  | none=>rfl
  | some i=>
   obtain⟨f,_⟩:=YW hl;simp[j5 f]
end Go.Bk
namespace Go.Eng.Sh
open Go.Nd (Ptr Str)
open Go.Bk
def wV (w:Nat×Str):List AV:= .int .i64 (w.1:Nat)::jT w.2
structure DkI (H:AH)(Ad nb:Nat)(ws:Ws)(On Nw:Nat)(wv:AV)(es:List (AV×AV)):Prop where
 gD:H.h.get Ad=some (.cells [.int .i64 nb, .map On,wv, .map Nw, .int .i64 (0:Nat), .nS, .bool false] 151 1 false)
 gO:H.h.get On=some (.map [6] [])
 gN:H.h.get Nw=some (.map [6] es)
 ow:Own 513 153 H wv ws.length (ws.flatMap wV)
 nw: ∀n:Nat,vB (.int .i64 n) es=(QS n ws).map fun i=> .int .i64 ((i:Nat):Int)
 ln: ∀w∈ws,w.2.length=512
 few:ws.length<=1000000
 ne:On≠Nw
theorem zCo {w:Nat×Str}(h:w.2.length=512):(wV w).length=513:=by simp[wV,jY,h]
theorem zGj: ∀(l:Ws) (i:Nat) (h:i<l.length),(∀w∈l,w.2.length=512)->((l.flatMap wV).drop (i*513)).take 513=wV l[i]
 | p::l,0,_,hl=>by
  rw[Nat.zero_mul,yD,qL,jD (zCo (hl p zJ))];rfl
 | p::l,i+1,h,hl=>by
  rw[qL,show(i+1)*513=513+i*513 by omega,<-List.drop_drop,jA (zCo (hl p zJ))];exact zGj l i (by simpa using h) fun w a=>hl w (zE _ a)
def zBi (n:Nat)(a:Ws):Str:=(blkAt n a).getD (List.replicate 512 0)
theorem zDu {a:Ws}(h: ∀w∈a,w.2.length=512):(zBi k a).length=512:=by
 rw[zBi,blkAt]
 cases hl:QS k a with
 | none=>simp
 | some i=>
  obtain⟨f,_⟩:=YW hl;simp only[yN,zK f,qA,yB];exact h _ (yJ f)
theorem keyI (z:Int):xP [6] (.int .i64 z)=true:=rfl
theorem zKI{Ad:Ws}(d:DkI H k w Ad t e i h)(q:C<w):f74 D n [.ptr k 0, .int .i64 C] H=some (.int .i64 (0:Nat),H):=by
 have o:Eng.ld1 (.ptr k 6) H=some (.bool false):=by rw[jR d.gD];rfl
 have p:Eng.ld1 (.ptr k 0) H=some (.int .i64 w):=by rw[jR d.gD];rfl
 have a:f120 D n [.ptr k 0] H=some (.int .i64 (0:Nat),H):=by
  simp(maxSteps:=999999)(disch:=omega) only[f120,eZ,cq,o]
 have f: ¬(((0:Nat):Int)≠((0:Nat):Int)):=by omega
 have t1: ¬(C:Int)< ((0:Nat):Int):=by omega
 have t2: ¬(w:Int)<=(C:Int):=by omega
 simp(maxSteps:=999999)(disch:=omega) only[f74,eZ,a,f,t1,p,t2]
theorem zAX(q:H.ok){a:Ws}(d:DkI H w t a e C i h){k:Nat}(M:k<t):
  ∃H',f25 D n [.ptr w 0, .int .i64 k] H=some (.tuple [.agg (jT (zBi k a)), .int .i64 (0:Nat)],H')/\Prs H H':=by
 obtain⟨Z,v⟩: ∃Z:Str,Z=List.replicate 512 0:=⟨_,rfl⟩;have N:Z.length=512:=by rw[v];simp
 have F:rep 512 [AV.int .u8 (0:Nat)]=jT Z:=by rw[dB,v]
 obtain⟨f,A4,b1,j,T,m1,n1⟩:=box q (.cells (jT Z) 55 1 false);have u:DkI f w t a e C i h:=⟨zOM j q d.gD,zOM j q d.gO,zOM j q d.gN,d.ow.mono j fun _ _ x=>x,d.nw,d.ln,d.few,d.ne⟩;have J:=zKI D n u M;have G: ¬(((0:Nat):Int)≠((0:Nat):Int)):=by omega
 have K:Eng.ld1 (.ptr w 3) f=some (.map C):=by rw[jR u.gD];rfl
 have U:Eng.ld1 (.ptr w 1) f=some (.map e):=by rw[jR u.gD];rfl
 have V:Eng.ld1 (.ptr w 2) f=some i:=by rw[jR u.gD];rfl
 have I:(zBi k a).length=512:=zDu d.ln;obtain⟨W,y,Y,s2⟩:=stR j.ok T N I;have z:=ldR Y I;refine⟨W, ?_,j.fresh s2 fun B hB=>by omega⟩
 cases hl:QS k a with
 | none=>
  have p:=d.nw k;rw[hl]at p;have Ad:lkM [6] (.int .i64 (0:Nat)) true (.map C) (.int .i64 k) f=some (.tuple [.int .i64 (0:Nat), .bool false]):=by
   simp only[lkM,keyI,zU,u.gN,show YO [6] [6]=true from rfl,p,Option.map_none];rfl
  have O:lkM [6] (.agg (jT Z)) false (.map e) (.int .i64 k) f=some (.agg (jT Z)):=by
   simp only[lkM,keyI,zU,u.gO,show YO [6] [6]=true from rfl,vB];rfl
  have s:zBi k a=Z:=by rw[zBi,blkAt,hl,v];rfl
  rw[s]at y z⊢;simp(maxSteps:=999999)(disch:=omega) only[f25,eZ,F,b1,J,G,K,Ad,jS,nth,U,O,y,z]
 | some m=>
  obtain⟨hi,_⟩:=YW hl;have p:=d.nw k;rw[hl]at p;have Ad:lkM [6] (.int .i64 (0:Nat)) true (.map C) (.int .i64 k) f=some (.tuple [.int .i64 m, .bool true]):=by
   simp only[lkM,keyI,zU,u.gN,show YO [6] [6]=true from rfl,p,qA];rfl
  have s:zBi k a=a[m].2:=by rw[zBi,blkAt,hl];simp[zK hi]
  obtain⟨A,o,c,nb,sz,g,q1,q2,q3,q4,L⟩:=Rw.at u.ow.row hi;rw[zGj a m hi d.ln]at L;have Q:=q1 .i64 (m:Int) rfl;have S:ldN 512 (.ptr A (o+1)) f=some (.agg (jT (zBi k a))):=by
   rw[QQ q2 (by omega),s];have h2:(c.drop (o+1)).take 512=((c.drop o).take 513).drop 1:=by
    rw[List.drop_take,List.drop_drop]
   rw[h2,L];rfl
  simp(maxSteps:=999999)(disch:=omega) only[f25,eZ,F,b1,J,G,K,Ad,jS,nth,V,Q,S,y,z]
end Go.Eng.Sh
end
section
namespace Go.Eng
theorem zJv (s t:Nat):aveq (.int .u64 (s:Nat)) (.int .u64 (t:Nat))=decide (s=t):=by
 have:keq .u64 .u64=true:=by rw[xQ];simp
 simp only[aveq,this,Bool.true_and,xS];rw[yL];simp only[zQ,beq_iff_eq];exact Int.ofNat_inj
theorem zNE (s:Nat):xP [10] (.int .u64 (s:Nat))=true:=rfl
end Go.Eng
namespace Go.Eng.Sh
open Go.Nd (Ptr sumL)
abbrev PN:=List (Nat×Nd.Node)
def jZ (s:Nat):PN->Option Nd.Node
 | []=>none
 | (a,n)::l=>if a=s then some n else jZ s l
def zB1 (s:Nat):PN->PN
 | []=>[]
 | (a,n)::l=>if a=s then l else(a,n)::zB1 s l
def uH (H:AH):List (AV×AV)->PN->Prop
 | [],[]=>True
 | (k,v)::es,(s,nd)::q=>(k= .int .u64 (s:Nat)/\kN H v nd)/\uH H es q
 | _,_=>False
theorem uH.len {H:AH} : ∀ {es:List (AV×AV)} {q:PN},uH H es q->es.length=q.length
 | [],[],_=>rfl
 | _::es,_::q,h=>by simp[uH.len h.2]
 | [],_::_,h=>h.elim
 | _::_,[],h=>h.elim
theorem uH.find {H:AH}(s:Nat): ∀ {es:List (AV×AV)} {q:PN},uH H es q->(∀a,jZ s q=some a-> ∃v,vB (.int .u64 (s:Nat)) es=some v/\kN H v a/\ ∃k,(k,v)∈es)/\(jZ s q=none->vB (.int .u64 (s:Nat)) es=none)
 | [],[],_=>⟨fun a h=>(by cases h),fun _=>rfl⟩
 | (k,v)::es,(t,a)::q,h=>by
  obtain⟨⟨rfl,j⟩,m⟩:=h;obtain⟨o,p⟩:=uH.find s m;simp only[jZ,vB,zJv];by_cases e:t=s
  .subst e;refine⟨fun f h=> ?_,fun h=>by simp at h⟩;simp only[if_true,zC]at h;subst h;exact⟨v,by simp,j,_,zJ ..⟩
  .have i: ¬s=t:=fun h=>e h.symm
   refine⟨fun f h=> ?_,fun h=> ?_⟩
   .rw[if_neg e]at h;obtain⟨u,x,y,k,z⟩:=o f h;exact⟨u,by simp[i,x],y,k,zE _ z⟩
   .rw[if_neg e]at h;simp[i,p h]
 | [],_::_,h=>h.elim
 | _::_,[],h=>h.elim
theorem uH.frame {H H':AH} : ∀ {es:List (AV×AV)} {q:PN},uH H es q->(∀kv∈es,∀a,kN H kv.2 a->kN H' kv.2 a)->uH H' es q
 | [],[],_,_=>trivial
 | (k,v)::es,(s,a)::q,h,hf=>⟨⟨h.1.1,hf (k,v) (zJ ..) a h.1.2⟩,uH.frame h.2 fun kv f=>hf kv (zE _ f)⟩
 | [],_::_,h,_=>h.elim
 | _::_,[],h,_=>h.elim
theorem uH.snoc {H:AH}{v:AV}{s:Nat}{a:Nd.Node}(f:kN H v a): ∀ {es:List (AV×AV)} {q:PN},uH H es q->uH H (es++[(.int .u64 (s:Nat),v)]) (q++[(s,a)])
 | [],[],_=>⟨⟨rfl,f⟩,trivial⟩
 | _::es,_::q,h=>⟨h.1,uH.snoc f h.2⟩
 | [],_::_,h=>h.elim
 | _::_,[],h=>h.elim
theorem v8 (s:Nat): ∀(a b:PN),jZ s (a++b)=match jZ s a with | some n=>some n | none=>jZ s b
 | [],_=>rfl
 | (t,n)::a,b=>by
  simp only[qF,jZ];split
  .rfl
  .exact v8 s a b
theorem setA_none {k v:AV} : ∀ {es:List (AV×AV)},vB k es=none->BJ k v es=none
 | [],_=>rfl
 | (a,b)::es,h=>by
  simp only[vB]at h;simp only[BJ]
  cases e:aveq k a with
  | true=>rw[e]at h;cases h
  | false=>rw[e]at h;simp only[yM]at h⊢;rw[setA_none h]
theorem uH.del {H:AH}(s:Nat): ∀ {es:List (AV×AV)} {q:PN},uH H es q->(∀f,jZ s q=some f-> ∃es',zH1 (.int .u64 (s:Nat)) es=some es'/\uH H es' (zB1 s q)/\ ∀kv∈es',kv∈es)
 | [],[],_=>fun f h=>by cases h
 | (k,v)::es,(t,f)::q,h=>by
  obtain⟨⟨rfl,m⟩,j⟩:=h;have o:=uH.del s j;simp only[jZ,zH1,zJv,zB1];by_cases e:t=s
  .subst e;intro i _;exact⟨es,by simp,by simpa using j,fun kv a=>zE _ a⟩
  .have p: ¬s=t:=fun h=>e h.symm
   intro i h;rw[if_neg e]at h;obtain⟨es',u,x,y⟩:=o i h;refine⟨(.int .u64 (t:Nat),v)::es',by simp[p,u], ?_,fun kv a=> ?_⟩
   .rw[if_neg e];exact⟨⟨rfl,m⟩,x⟩
   .rcases zO.1 a with rfl | a
    .exact zJ ..
    .exact zE _ (y kv a)
 | [],_::_,h=>h.elim
 | _::_,[],h=>h.elim
def zOx (o:AObj):Prop:=(∃x r e g,o= .cells (x::r) e 1 g/\ ∀l b,x≠ .str l b)\/(∃ks es,o= .map ks es)\/ ∃l e k g,o= .cells l e k g/\k≠1/\k≠3
theorem wG.nsep {k e n:Nat}{H:AH}{v:AV}{l:List AV}(h:wG k e H v n l){A:Nat}{o:AObj}(a:H.h.get A=some o)(i: ∀j g,o≠ .cells l j k g): ¬Blk v A:=by
 intro hb;rcases h with⟨_,⟨rfl,_⟩ | ⟨B,rfl,_,f⟩⟩ | ⟨_,B,j,g,rfl,_,f,_⟩
 .exact zOO.1 hb
 .rw[zOG.1 hb]at a;rw[f]at a;exact i _ _ (yG a).symm
 .rw[zOG.1 hb]at a;rw[f]at a;exact i _ _ (yG a).symm
def zON:=@wG.nsep
theorem kN.nblk (h:kN H i A)(f:H.h.get k=some R)(j:zOx R): ¬vV i k:=by
 obtain⟨ks,vs,F,rfl,p,q,s⟩:=h;have m: ∀(l:List Str),∀a g,R≠ .cells (l.map S) a 1 g:=fun l a g e=>by
  rcases j with⟨x,r,t,u,rfl,z⟩ | ⟨_,_,rfl⟩ | ⟨_,_,_,_,rfl,k1,k3⟩
  .simp only[AObj.cells.injEq]at e
   cases l with
   | nil=>simp at e
   | cons y l=>
    simp only[yK,y9]at e;exact z _ _ e.1.1
  .cases e
  .simp only[AObj.cells.injEq]at e;omega
 have C: ∀a g,R≠ .cells (A.kids.flatMap jX) a 3 g:=fun a g e=>by
  rcases j with⟨x,r,t,u,rfl,_⟩ | ⟨_,_,rfl⟩ | ⟨_,_,_,_,rfl,k1,k3⟩
  .simp only[AObj.cells.injEq]at e;omega
  .cases e
  .simp only[AObj.cells.injEq]at e;omega
 intro hb;rcases xB.1 hb with h | h | h
 .exact zON p f (m _) h
 .exact zON q f (m _) h
 .exact zON s f C h
theorem kN.stp (h:kN H i A)(s:Stp F H B)(f: ∀S,vV i S-> ¬F S):kN B i A:=by
 obtain⟨ks,vs,j,rfl,m,o,p⟩:=h;exact⟨ks,vs,j,rfl,m.mono s (fun S a=>f S (xB.2 (.inl a))),o.mono s (fun S a=>f S (xB.2 (.inr (.inl a)))),p.mono s (fun S a=>f S (xB.2 (.inr (.inr a))))⟩
theorem kN.lt {H:AH}{v:AV}{a:Nd.Node}(h:kN H v a){B:Nat}(f:vV v B):B<H.next:=by
 obtain⟨ks,vs,o,rfl,i,j,m⟩:=h;rcases xB.1 f with h | h | h
 .exact i.lt h
 .exact j.lt h
 .exact m.lt h
theorem Stp.thr {T:Nat->Prop}(h:Stp F H B)(k:Stp T B N)(f: ∀A,T A->H.next<=A\/F A):Stp F H N:=
 ⟨k.ok,qR h.next k.next,fun A i j=>by
  rw[k.keep A (qI i h.next) (fun x=>by rcases f A x with y | y;omega;exact j y),h.keep A i j]⟩
def wQ (d c:AV)(root:Ptr)(M a:Nat)(f:AV):List AV:=[d,c, .int .i64 root.at_, .int .i64 root.birth, .int .u64 root.sum, .map M, .int .u64 (a:Nat),f]
structure Ev where
 nb:Nat
 ws:Bk.Ws
 dl:List Ptr
 x:Nat->Prop
 bd:Prop
def XE (E:Ev)(a:AV)(B:Nat):Prop:=Blk a B\/E.x B
def OnD (E:Ev)(p:Ptr)(f:Nd.Node):Prop:= ∃(a birth:Nat) (kind:UInt8) (body:Str),p=bN a birth (Bk.sealB kind birth body)/\2<=a/\a<E.nb/\(a<8192/\ ∀k∈f.kids,k.at_≠1)/\birth<=2147483647/\body.length<=500/\Bk.blkAt a E.ws=some (Bk.sealB kind birth body)/\(kind=1\/kind=2)/\Nd.decN ltS (decide (kind=1)) body=some f
theorem zLs {p:Ev}(h:OnD p E A)(q:OnD p E G):A=G:=by
 obtain⟨a,b,k,s,rfl,_,_,_,hb,t,u,_,v⟩:=h;obtain⟨x,y,k',J,e,_,_,_,I,o,i,_,j⟩:=q;simp only[bN,Ptr.mk.injEq]at e;have z:a=x:=by omega
 have C:b=y:=by omega
 subst z;subst C;rw[u]at i;obtain⟨F,m⟩:=Bk.seal_inj t o (yG i);subst F;subst m;rw[v]at j;exact yG j
open Classical in
noncomputable def Ev.K (E:Ev)(p:Ptr):Option Nd.Node:=if h: ∃nd,OnD E p nd then some (Classical.choose h)else none
theorem Ev.K_iff {E:Ev}{p:Ptr}{a:Nd.Node} :E.K p=some a↔OnD E p a:=by
 rw[Ev.K];constructor
 .intro h;split at h
  .rename_i f;rw[<-yG h];exact Classical.choose_spec f
  .cases h
 .intro h;rw[dif_pos ⟨a,h⟩];exact congrArg some (zLs (Classical.choose_spec (⟨a,h⟩: ∃a,OnD E p a)) h)
def zOI:=@Ev.K_iff
def pp (s:Nat):Ptr:=⟨1,0,(s:Nat)⟩
noncomputable def Qf (E:Ev)(q f:PN)(p:Ptr):Option Nd.Node:=if p=pp p.sum.toNat then(match jZ p.sum.toNat f with | some n=>some n | none=>jZ p.sum.toNat q)else E.K p
theorem BF (E:Ev)(q f:PN)(s:Nat):Qf E q f (pp s)=match jZ s f with | some n=>some n | none=>jZ s q:=by simp[Qf,pp]
theorem vT {p:Ev}{q f:PN}(h:Qf p q f E=some A):(∃s,E=pp s/\(jZ s f=some A\/(jZ s f=none/\jZ s q=some A)))\/((∀s,E≠pp s)/\p.K E=some A):=by
 simp only[Qf]at h;split at h
 .rename_i e;refine .inl ⟨_,e, ?_⟩;split at h
  .rename_i n i;exact .inl (i.trans h)
  .rename_i i;exact .inr ⟨i,h⟩
 .rename_i e;exact .inr ⟨fun s es=>e (by rw[es];simp[pp]),h⟩
theorem Y5 {p:Ev}{q f:PN}(h: ∀s,E≠pp s):Qf p q f E=p.K E:=by rw[Qf,if_neg (h _)]
def zJM (E:Ev)(f:Bk.Ws):Prop:= ∀a b,Bk.blkAt a E.ws=some b->Bk.blkAt a f=some b\/(E.bd/\ ∃b2,Bk.blkAt a f=some b2/\b2.length=512/\Bk.sumS b2≠Bk.sumS b)
theorem zJM.self (E:Ev):zJM E E.ws:=fun _ _ h=> .inl h
structure TI (E:Ev)(H:AH)(At M:Nat)(d c:AV)(root:Ptr)(es:List (AV×AV))(q:PN)(last:Nat)(dr:AV):Prop where
 ok:H.ok
 gT:H.h.get At=some (.cells (wQ d c root M last dr) 140 1 false)
 gM:H.h.get M=some (.map [10] es)
 pq:uH H es q
 dk: ∃Ad On Nw wv ds ws2,d= .ptr Ad 0/\DkI H Ad E.nb ws2 On Nw wv ds/\zJM E ws2
 cn:c= .nP\/ ∀p,E.K p=none
 dg:wG 3 42 H dr E.dl.length (E.dl.flatMap jX)
 ds: ∀kv∈es,∀B,vV kv.2 B-> ¬XE E dr B
 few:q.length<=1000000000
 xl: ∀B,E.x B->B<H.next
theorem TI.hd {M:Ev}{f:PN}(a:TI M H k w i q E h f t I): ∃A o,i= .ptr A o:=by
 obtain⟨A,_,_,_,_,_,e,_⟩:=a.dk;exact⟨A,0,e⟩
theorem DkI.stp {j:Bk.Ws}(d:DkI H k w j t e i h)(H':H.ok)(s:Stp F H B)(m: ¬F k)(o: ¬F t)(p: ¬F e)(q: ∀S,Blk i S-> ¬F S):DkI B k w j t e i h:=
 ⟨by rw[s.keep _ (H'.lt d.gD) m];exact d.gD,by rw[s.keep _ (H'.lt d.gO) o];exact d.gO,by rw[s.keep _ (H'.lt d.gN) p];exact d.gN,d.ow.mono s q,d.nw,d.ln,d.few,d.ne⟩
theorem DkI.prs {a:Bk.Ws}(d:DkI H k w a t e i h)(j:H.ok)(s:Prs H B):DkI B k w a t e i h:=d.stp j s (fun x=>x) (fun x=>x) (fun x=>x) fun _ _ x=>x
theorem TI.prs {E:Ev}{H H':AH}{i M f:Nat}{d c j:AV}{root:Ptr}{es:List (AV×AV)}{q:PN}(h:TI E H i M d c root es q f j)(s:Prs H H'):TI E H' i M d c root es q f j:=
 ⟨s.ok,zOM s h.ok h.gT,zOM s h.ok h.gM,h.pq.frame fun kv _ y a=>a.prs s,by
  obtain⟨Ad,o,p,t,u,m,e,hd,a⟩:=h.dk;exact⟨Ad,o,p,t,u,m,e,hd.prs h.ok s,a⟩,h.cn,h.dg.mono s fun _ _ x=>x,h.ds,h.few,fun B v=>qI (h.xl B v) s.next⟩
theorem QM{M:Ev}{a:PN}(f:TI M H k w i q E h a t I):f73 D n [.ptr k 0] H=some (.bool false,H):=by
 obtain⟨A,o,rfl⟩:=f.hd;simp only[f73,eZ,cq,jR f.gT,wQ]
theorem zFQ{f:Ev}{M:PN}(d:TI f H k w i q E h M t I):f76 D n [.ptr k 0] H=some (.int .i64 (8192+M.length:Nat),H):=by
 have m:=d.few;have a:ZM (.map w) H=some (.int .i64 M.length):=by
  simp only[ZM,d.gM,kI,d.pq.len];rfl
 have e:((8192:Nat):Int)+(M.length:Int)=((8192+M.length:Nat):Int):=by omega
 simp(disch:=omega) only[f76,eZ,jR d.gT,wQ,a,e]
theorem zAe{c:Ev}{s:PN}(Y:TI c H k w i q E h s t I)(Z:jZ e s=some A):
  ∃v H',f77 D n [.ptr k 0, .agg (jX (pp e))] H=some (.tuple [v, .int .i64 (0:Nat)],H')/\Prs H H'/\kN H' v A/\ ∃y,(y,v)∈h:=by
 obtain⟨v,f1,z,hm⟩:=(Y.pq.find e).1 A Z;obtain⟨H1,C,b1,f,F,m1,n1⟩:=box Y.ok (.cells [.int .i64 (1:Nat), .int .i64 (0:Nat), .int .u64 (e:Nat)] 42 1 false);obtain⟨G,A4,b2,O,g2,m2,n2⟩:=box f.ok (.cells [.bool false, .nS, .nS, .nS] 119 1 false);have a:Prs H G:=f.trans O;obtain⟨d,A6,b3,j,g3,m3,n3⟩:=box a.ok (.cells [.bool false, .nS, .nS, .nS] 119 1 false);have J:=a.trans j;obtain⟨l,rfl,o,K⟩:=z.cells;obtain⟨m,e4,g4,M,n4⟩:=kE J.ok g3 (l':=l) o K;have Q:stN 4 (.ptr A6 0) (.agg l) d=some (jU,m):=e4;have L:Prs H m:=J.fresh M (fun B hB=>by have:=a.next;omega)
 obtain⟨u,e5,g5,s5,n5⟩:=kE L.ok (show m.h.get A4=some (.cells [.bool false, .nS, .nS, .nS] 119 1 false)by rw[M.keep _ (by have:=j.next;omega) (by omega)];exact zOM j a.ok g2) (l':=l) o K
 have S:stN 4 (.ptr A4 0) (.agg l) m=some (jU,u):=e5;have N:Prs H u:=L.fresh s5 (fun B hB=>by have:=f.next;omega)
 have x:d.h.get C=some (.cells [.int .i64 (1:Nat), .int .i64 (0:Nat), .int .u64 (e:Nat)] 42 1 false):=zOM j a.ok (zOM O f.ok F);have T:=zOM O f.ok F;have U:m.h.get C=some (.cells [.int .i64 (1:Nat), .int .i64 (0:Nat), .int .u64 (e:Nat)] 42 1 false):=by rw[M.keep _ (by have:=O.next;have:=j.next;omega) (by have:=O.next;omega)];exact x
 have V:lkM [10] (.agg [.bool false, .nS, .nS, .nS]) true (.map w) (.int .u64 (e:Nat)) G=some (.tuple [.agg l, .bool true]):=by
  simp only[lkM,zNE,zU,zOM a Y.ok Y.gM,show YO [10] [10]=true from rfl,f1];rfl
 refine⟨.agg l,u, ?_,N,z.prs N,hm⟩;have W: ¬(((0:Nat):Int)≠((0:Nat):Int)):=by omega
 have hp:jX (pp e)=[.int .i64 (1:Nat), .int .i64 (0:Nat), .int .u64 (e:Nat)]:=rfl;rw[hp];simp(maxSteps:=999999)(disch:=omega) only[f77,eZ,b1,b2,jR T,jR x,jR U,jR (zOM a Y.ok Y.gT),wQ,V,jS,nth,b3,Q,W,uG g4 o,S,uG g5 o]
theorem Q8.free (h:Q8 H B i A):vW H.next B i A:=by
 obtain⟨ks,vs,f,rfl,v,j,m,o,_⟩:=h;exact⟨⟨ks,vs,f,rfl, .inl v, .inl j, .inl m⟩,fun H0 p=>o H0 (xB.1 p)⟩
theorem zHh(s:1000<=n)(t:H.ok){at_ birth:Nat}(I:1<=at_){b B:Str}(hl:b.length=512)(J:Bk.sumS b≠Bk.sumS B):
  ∃H',f171 D n [.agg (jX (bN at_ birth B)), .agg (jT b)] H=some (.tuple [.int .u8 (0:Nat), .str 0 0, .int .i64 (52:Nat)],H')/\Prs H H':=by
 obtain⟨L,h,b1,i,u,M,N⟩:=box t (.cells (jX (bN at_ birth B)) 42 1 false);obtain⟨j,O,b2,a,v,Q,S⟩:=box i.ok (.cells (jT b) 55 1 false);obtain⟨m,x,o⟩:=zCf D n s a.ok hl;have f:=zOM a i.ok u;have p:=zOM o a.ok f;have y:Eng.ld1 (.ptr h 0) j=some (.int .i64 at_):=by rw[jR f];rfl
 have z:Eng.ld1 (.ptr h 2) j=some (.int .u64 (Bk.sumS B:Nat)):=by rw[jR f];rfl
 have q:Eng.ld1 (.ptr h 2) m=some (.int .u64 (Bk.sumS B:Nat)):=by rw[jR p];rfl
 have C:=ldR v hl;have t0: ¬(at_:Int)=((0:Nat):Int):=by omega
 have F:(((Bk.sumS b:Nat):Int)≠((Bk.sumS B:Nat):Int))=True:=eq_true (by omega);have G: ∀K:Rs,chk (some (.int .u64 (Bk.sumS B:Nat))) (.int .u64 (Bk.sumS B:Nat)) K=K:=fun K=>kY rfl (by simp[aveq,xQ,xS])
 refine⟨m, ?_,(i.trans a).trans o⟩;simp(maxSteps:=999999)(disch:=omega) only[f171,eZ,b1,b2,y,t0,C,z,x,q,G,F]
theorem zMs(Q:1000<=n){dr:Ev}{d:PN}(root:TI dr H k w i .nP E h d t q){birth:Nat}{body:Str}(ha:2<=e)(a2:e<dr.nb)(hb:birth<=2147483647)(hl:body.length<=500)(I:Bk.blkAt e dr.ws=some (Bk.sealB U birth body)):
  ∃H' j b es,f122 D n [.ptr k 0, .agg (jX (bN e birth (Bk.sealB U birth body)))] H=some (.tuple [.int .u8 ((j:Nat):Int),b, .int .i64 ((es:Nat):Int)],H')/\Prs H H'/\(es=0/\j=U.toNat/\b=S body\/es=52/\dr.bd):=by
 obtain⟨B,s⟩: ∃B,B=Bk.sealB U birth body:=⟨_,rfl⟩;have J:=Bk.sealB_len (kind:=U) (birth:=birth) hl;obtain⟨z,C,b1,f,T,m1,n1⟩:=box root.ok (.cells (jX (bN e birth B)) 42 1 false);obtain⟨Z,a⟩: ∃Z:Str,Z=List.replicate 512 0:=⟨_,rfl⟩;have a3:Z.length=512:=by rw[a];exact List.length_replicate
 have K:rep 512 [AV.int .u8 (0:Nat)]=jT Z:=by rw[dB,a]
 obtain⟨H2,a8,b2,a1,g2,m2,n2⟩:=box f.ok (.cells (jT Z) 55 1 false);have N1:=f.next;have N2:=a1.next
 have h2:=(root.prs f).prs a1;obtain⟨Ad,On,Nw,wv,ds,p,rfl,hd,a0⟩:=h2.dk;obtain⟨H3,F,m⟩:=zAX D n a1.ok hd a2;rw[<-s]at J I;have x:zBi e p=B\/(dr.bd/\(zBi e p).length=512/\Bk.sumS (zBi e p)≠Bk.sumS B):=by
  rcases a0 e B I with es | ⟨hb,b2,e2,a4,a5⟩
  .exact .inl (by rw[zBi,es];rfl)
  .refine .inr ⟨hb, ?_⟩;rw[zBi,e2];exact⟨a4,a5⟩
 generalize zBi e p=BB at x F;have y:BB.length=512:=by
  rcases x with rfl | ⟨_,root,_⟩
  .exact J
  .exact root
 obtain⟨G,V,g4,W⟩:=stR m.ok (zOM m a1.ok g2) a3 y;have N3:=m.next
 have o:Prs H G:=((f.trans a1).trans m).fresh W fun B s=>by omega
 have a6:G.h.get C=some (.cells (jX (bN e birth B)) 42 1 false):=by
  rw[W.keep _ (by omega) (by omega)];exact zOM (a1.trans m) f.ok T
 have c1:Eng.ld1 (.ptr k 1) z=some .nP:=by rw[jR (root.prs f).gT];rfl
 have L:Eng.ld1 (.ptr k 0) z=some (.ptr Ad 0):=by rw[jR (root.prs f).gT];rfl
 have Y:Eng.ld1 (.ptr C 0) z=some (.int .i64 e):=by rw[jR T];rfl
 have N:ldN 3 (.ptr C 0) G=some (.agg (jX (bN e birth B))):=by rw[jW a6];rfl
 have r4:=ldR g4 y;have O: ¬(((0:Nat):Int)≠((0:Nat):Int)):=by omega
 rcases x with rfl | ⟨a7,_,hs⟩
 .obtain⟨M,u,v⟩:=zJg D n Q o.ok U (at_:=e) (by omega) hb hl;rw[<-s]at u⊢;have h5:=(root.prs o).prs v;have c5:Eng.ld1 (.ptr k 1) M=some .nP:=by rw[jR h5.gT];rfl
  refine⟨M,U.toNat,S body,0, ?_,o.trans v, .inl ⟨rfl,rfl,rfl⟩⟩;simp(maxSteps:=999999)(disch:=omega) only[f122,zGI,zGH,eZ,b1,c1,cq,L,Y,K,b2,F,jS,nth,V,O,N,r4,u,c5]
 .obtain⟨M,u,v⟩:=zHh D n Q o.ok (at_:=e) (birth:=birth) (by omega) y hs;rw[<-s];have t52:((52:Nat):Int)≠((0:Nat):Int):=by omega
  refine⟨M,0, .str 0 0,52, ?_,o.trans v, .inr ⟨rfl,a7⟩⟩;simp(maxSteps:=999999)(disch:=omega) only[f122,zGI,zGH,eZ,b1,c1,cq,L,Y,K,b2,F,jS,nth,V,O,t52,N,r4,u,ne_eq,yQ]
theorem zE0 (m n:Nat)(hn:200000000<=n){c:Ev}{p:Ptr}{a1:PN}(dr:TI c H k w i q E h a1 t I)(G:c.K p=some A):
  ∃l H' e,f77 (dy (m+1)) n [.ptr k 0, .agg (jX p)] H=some (.tuple [.agg l, .int .i64 ((e:Nat):Int)],H')/\Prs H H'/\(l.length=4/\jV l=true)/\(e=0/\kN H' (.agg l) A/\(∀B,vV (.agg l) B->H.next<=B)\/e=52/\c.bd):=by
 have hc:q= .nP:=by
  rcases dr.cn with e | e
  .exact e
  .rw[e]at G;cases G
 subst hc;obtain⟨a,birth,kind,body,rfl,ha,a4,_,hb,hl,a2,a0,T⟩:=zOI.1 G;obtain⟨B,M⟩: ∃B,B=Bk.sealB kind birth body:=⟨_,rfl⟩;obtain⟨H1,W,b1,s,Y,m1,n1⟩:=box dr.ok (.cells (jX (bN a birth B)) 42 1 false);obtain⟨Z,A4,b2,j,g2,m2,n2⟩:=box s.ok (.cells [.bool false, .nS, .nS, .nS] 119 1 false);have N1:=s.next;have N2:=j.next
 have d:=s.trans j;obtain⟨H3,bk,bb,be,o,f,a3⟩:=zMs (dy (m+1)) n (by omega) (dr.prs d) ha a4 hb hl a2;rw[<-M]at o⊢;have J:Eng.ld1 (.ptr W 0) Z=some (.int .i64 a):=by rw[jR (zOM j s.ok Y)];rfl
 have L:ldN 3 (.ptr W 0) Z=some (.agg (jX (bN a birth B))):=by rw[jW (zOM j s.ok Y)];rfl
 have t1: ¬(a:Int)=((1:Nat):Int):=by omega
 rcases a3 with⟨rfl,rfl,rfl⟩ | ⟨rfl,a5⟩
 rotate_left
 .have N3:=f.next
  have P3:=d.trans f;obtain⟨V,N,y,s5,n5⟩:=kE f.ok (zOM f j.ok g2) (l':=[.bool false, .nS, .nS, .nS]) rfl rfl;have u:stN 4 (.ptr A4 0) (.agg [.bool false, .nS, .nS, .nS]) H3=some (jU,V):=N;have t52:((52:Nat):Int)≠((0:Nat):Int):=by omega
  refine⟨[.bool false, .nS, .nS, .nS],V,52, ?_,P3.fresh s5 fun B M=>by omega,⟨rfl,rfl⟩, .inr ⟨rfl,a5⟩⟩;simp(maxSteps:=999999)(disch:=omega) only[f77,eZ,b1,b2,J,t1,L,o,jS,nth,t52,ne_eq,yQ,fQ,u,uG y rfl]
 obtain⟨v,H4,e4,z,hO,l,rfl,C,lc⟩:=zH2 m n hn f.ok (decide (kind=1)) body;rw[T]at e4;have O:=(hO A T).free;have N3:=f.next;have N4:=z.next
 have P4:=(d.trans f).trans z;obtain⟨V,N,y,s5,n5⟩:=kE z.ok (zOM (f.trans z) j.ok g2) (l':=l) C lc;have u:stN 4 (.ptr A4 0) (.agg l) H4=some (jU,V):=N;have x:f123 (dy (m+1)) n [.bool (decide (kind=1)),S body] H3=some (.tuple [.agg l, .int .i64 (0:Nat)],H4):=e4;have U: ¬(((0:Nat):Int)≠((0:Nat):Int)):=by omega
 refine⟨l,V,0, ?_,P4.fresh s5 fun B M=>by omega,⟨C,lc⟩, .inl ⟨rfl,O.1.stp s5 fun B M e=> ?_,fun B M=> ?_⟩⟩
 .rcases a0 with rfl | rfl
  .have k1:(((1:UInt8).toNat:Nat):Int)=((1:Nat):Int):=rfl;have Q:decide ((1:UInt8)=1)=true:=rfl;have t11: ¬(((1:Nat):Int)≠((1:Nat):Int)):=by omega
   rw[k1]at o;rw[Q]at x;simp(maxSteps:=999999)(disch:=omega) only[f77,eZ,b1,b2,J,t1,L,o,jS,nth,U,t11,x,u,uG y C]
  .have k1:(((2:UInt8).toNat:Nat):Int)=((2:Nat):Int):=rfl;have Q:decide ((2:UInt8)=1)=false:=rfl;have t21:((2:Nat):Int)≠((1:Nat):Int):=by omega
   have t22: ¬(((2:Nat):Int)≠((2:Nat):Int)):=by omega
   have t23: ¬((2:Nat):Int)=((1:Nat):Int):=by omega
   rw[k1]at o;rw[Q]at x;simp(maxSteps:=999999)(disch:=omega) only[f77,eZ,b1,b2,J,t1,L,o,jS,nth,U,ne_eq,t23,yQ,t22,x,u,uG y C]
 .have:=O.2 B M;omega
 .have:=O.2 B M;omega
theorem zBM (m n:Nat)(u:200000000<=n){c:Ev}{p:Ptr}{d:PN}(x:TI c H k w i q E h d t I)(y:Qf c d [] p=some A):
  ∃l H' e,f77 (dy (m+1)) n [.ptr k 0, .agg (jX p)] H=some (.tuple [.agg l, .int .i64 ((e:Nat):Int)],H')/\Prs H H'/\(l.length=4/\jV l=true)/\(e=0/\kN H' (.agg l) A/\((∃j,(j, .agg l)∈h)\/ ∀B,vV (.agg l) B->H.next<=B)\/e=52/\c.bd):=by
 rcases vT y with⟨s,rfl,f | ⟨_,f⟩⟩ | ⟨_,f⟩
 .simp[jZ]at f
 .obtain⟨v,H',e,p,g,j⟩:=zAe (dy (m+1)) n x f;obtain⟨l,rfl,z,C⟩:=g.cells;exact⟨l,H',0,e,p,⟨z,C⟩, .inl ⟨rfl,g, .inl j⟩⟩
 .obtain⟨l,H',e,F,p,hl,M⟩:=zE0 m n u x f;refine⟨l,H',e,F,p,hl, ?_⟩;rcases M with⟨a,b,q⟩ | M
  .exact .inl ⟨a,b, .inr q⟩
  .exact .inr M
variable {X:Nat->Prop}
structure Ch (X:Nat->Prop)(H0 H:AH)(At Ac F:Nat)(fes:List (AV×AV))(f:PN)(g:AV)(gl:List Ptr)(last0 last:Nat):Prop where
 prs:Prs H0 H
 gC:H.h.get Ac=some (.cells [.ptr At 0, .int .u64 (last:Nat), .map F,g] 242 1 false)
 gF:H.h.get F=some (.map [10] fes)
 pf:uH H fes f
 gg:Own 3 42 H g gl.length (gl.flatMap jX)
 gN: ∀B,Blk g B->H0.next<=B
 gf: ∀kv∈fes,∀B,vV kv.2 B-> ¬Blk g B
 dC:H0.next<=Ac
 dF:H0.next<=F
 ne:Ac≠F
 fs: ∀s nd,jZ s f=some nd->last0<s/\s<=last
 le:last0<=last
 few:gl.length<=last+1000
 fd:(f.map Prod.fst).Nodup
 fl:f.length+last0<=last
 gx: ∀kv∈fes,∀B,vV kv.2 B-> ¬X B
 xo: ∀B,X B->B<H0.next
theorem gV {s:Nat} : ∀ {q:PN},s∈q.map Prod.fst-> ∃a,jZ s q=some a
 | [],h=>by simp at h
 | (t,n)::q,h=>by
  simp only[jZ];by_cases e:t=s
  .exact⟨n,if_pos e⟩
  .rw[if_neg e];simp only[yK,zO]at h;exact gV (h.resolve_left fun f=>e f.symm)
def chg (a F:Nat)(g:AV)(B:Nat):Prop:=B=a\/B=F\/Blk g B
def Adv (a F:Nat)(H:AH)(g:AV)(H':AH)(f:AV):Prop:=Stp (chg a F g) H H'/\ ∀B,Blk f B->Blk g B\/H.next<=B
def xU (X:Nat->Prop)(H:AH)(g v:AV)(a:Nd.Node):Prop:=kN H v a/\ ∀B,vV v B-> ¬Blk g B/\ ¬X B
theorem Adv.prs (g:AV)(s:Prs H B):Adv k w H g B g:=⟨s.mono (fun _ _ x=>x.elim),fun _ h=> .inl h⟩
theorem Adv.trans (j:k<H.next)(t:w<H.next)(h:Adv k w H i B q)(a:Adv k w B q N I):Adv k w H i N I:=by
 refine⟨⟨a.1.ok,qR h.1.next a.1.next,fun A j f=> ?_⟩,fun F m=> ?_⟩
 .rw[a.1.keep A (qI j h.1.next) (fun s=> ?_),h.1.keep A j f]
  rcases s with e | e | e
  .exact f (.inl e)
  .exact f (.inr (.inl e))
  .rcases h.2 A e with e | e
   .exact f (.inr (.inr e))
   .omega
 .have:=h.1.next
  rcases a.2 F m with e | e
  .exact h.2 F e
  .exact .inr (by omega)
theorem Ch.ltC {f:PN}(H0:Ch X H B k w t h f i v e C):w<B.next:=H0.prs.ok.lt H0.gC
theorem Ch.ltF {f:PN}(H0:Ch X H B k w t h f i v e C):t<B.next:=H0.prs.ok.lt H0.gF
theorem Ch.keep {f:PN}(H0:Ch X H B k w t h f i v e C)(a:xU X B i q G)(s:Stp (chg w t i) B N):kN N q G:=
 a.1.stp s fun A H' u=>by
  rcases u with rfl | rfl | j
  .exact a.1.nblk H0.gC (.inl ⟨_,_,_,_,rfl,fun _ _ j=>by cases j⟩) H'
  .exact a.1.nblk H0.gF (.inr (.inl ⟨_,_,rfl⟩)) H'
  .exact(a.2 A H').1 j
theorem Ch.next {f:PN}(H':Ch X H B k w t h f i v e C)(a:xU X B i I A)(s:Adv w t B i N q):xU X N q I A:=
 ⟨H'.keep a s.1,fun H0 u=>⟨fun x=>by
  rcases s.2 H0 x with j | j
  .exact(a.2 H0 u).1 j
  .have:=a.1.lt u;omega,(a.2 H0 u).2⟩⟩
theorem Ch.step {f:PN}(H0:Ch X H B k w t h f i v e C)(s:Prs B N):Ch X H N k w t h f i v e C:=
 ⟨H0.prs.trans s,zOM s H0.prs.ok H0.gC,zOM s H0.prs.ok H0.gF,H0.pf.frame fun kv _ q p=>p.prs s,H0.gg.mono s (fun _ _ x=>x),H0.gN,H0.gf,H0.dC,H0.dF,H0.ne,H0.fs,H0.le,H0.few,H0.fd,H0.fl,H0.gx,H0.xo⟩
theorem xU.prs {H H':AH}{g v:AV}{a:Nd.Node}(h:xU X H g v a)(s:Prs H H'):xU X H' g v a:=⟨h.1.prs s,h.2⟩
theorem vW.hand {f:PN}(F:Ch X H B k w t h f i v e C){H':Nat}(x:B.next<=H')(a:vW H' N q A):xU X N i q A:=
 ⟨a.1,fun H0 j=>⟨fun s=>by have:=a.2 H0 j;have:=zOR F.gg.row s;omega,fun u=>by have:=a.2 H0 j;have:=F.xo H0 u;have:=F.prs.next;omega⟩⟩
theorem kN.hand {f:PN}(p:Ch X H B k w t h f i v e C)(s:kN N q A)(H': ∀H0,vV q H0->H0<H.next)(u: ∀H0,vV q H0-> ¬X H0):xU X N i q A:=
 ⟨s,fun H0 F=>⟨fun x=>by have:=H' H0 F;have:=p.gN H0 x;omega,u H0 F⟩⟩
theorem bldQ (e:TypeId)(p:Ptr)(z:List AV)(a:z.length=3):Q0 e 3 1 z [(0, .agg (jX p))]=some (.cells (jX p) e 3 false,fun A=> .slice A 0 1 2):=by
 match z,a with
 | [_,_,_],_=>rfl
theorem zIb (p:Ptr):uW (jX p) 0 3=some (jX p):=rfl
theorem zGc{f:PN}(m:Ch X H B k w t h f i v e C)(p:Ptr)(hl:v.length+1<=C+1000)(hb:C<=900000000):
  ∃s H',f130 D n [.ptr w 0, .agg (jX p)] B=some (.tuple [],H')/\Ch X H H' k w t h f s (v++[p]) e C/\Adv w t B i H' s:=by
 obtain⟨H1,A3,b1,N,g1,m1,n1⟩:=box m.prs.ok (.cells (jX p) 42 1 false);obtain⟨Y,A4,b2,p2,g2,m2,n2⟩:=box N.ok (.cells (jX p) 42 3 false);have G:=N.trans p2;have j:=m.step G;have a0:srcOf 3 (.slice A4 0 1 2) Y=some (1,jX p):=by
  simp only[srcOf,g2];rfl
 obtain⟨s,O,e3,Q,z,w3,I⟩:=zMw (bytes:=24) j.prs.ok (by decide) j.gg a0 rfl rfl (by omega) (by decide);have Z: ¬Blk i w:=fun a=>by
  obtain⟨_,⟨rfl,_⟩ | ⟨A,rfl,_,u⟩⟩:=j.gg
  .exact zOO.1 a
  .rw[<-zOG.1 a,j.gC]at u;simp at u
 have nF: ¬Blk i t:=fun a=>by
  obtain⟨_,⟨rfl,_⟩ | ⟨A,rfl,_,u⟩⟩:=j.gg
  .exact zOO.1 a
  .rw[<-zOG.1 a,j.gF]at u;simp at u
 have a2:O.h.get w=some (.cells [.ptr k 0, .int .u64 (C:Nat), .map t,i] 242 1 false):=by rw[z.keep _ j.ltC Z];exact j.gC
 have a3:O.h.get t=some (.map [10] h):=by rw[z.keep _ j.ltF nF];exact j.gF
 obtain⟨J,e4,g4,T,n4⟩:=xI z.ok a2 (o:=3) (x:=s) Q.row.isCell (by simp);have a6: ∀H0,Blk s H0->H0<O.next:=fun H0 a=>zOR Q.row a
 have a4: ¬Blk s w:=fun a=>by
  rcases I w a with g | g
  .exact Z g
  .have:=j.ltC;omega
 have S2:Stp (chg w t i) Y J:=(z.mono (fun _ _ x=> .inr (.inr x))).trans (T.mono (fun _ _ x=> .inl x));have S:Stp (chg w t i) B J:=(G.mono (fun _ _ x=>x.elim)).trans S2;have a1:Adv w t B i J s:=⟨S,fun H0 a=>by
  rcases I H0 a with g | g
  .exact .inl g
  .have:=G.next;exact .inr (by omega)⟩
 have a5:(v++[p]).flatMap jX=v.flatMap jX++jX p:=by simp
 refine⟨s,J, ?_,⟨?_, ?_, ?_, ?_, ?_, ?_, ?_,m.dC,m.dF,m.ne,m.fs,m.le,by simpa using hl,m.fd,m.fl,m.gx,m.xo⟩,a1⟩
 .have e1:=bldQ 42 p [.int .i64 (0:Nat), .int .i64 (0:Nat), .int .u64 (0:Nat)] rfl;simp(disch:=omega) only[f130,eZ,b1,jR (zOM N m.prs.ok m.gC),jW g1,zIb,qA,e1,b2,e3,e4]
 .exact m.prs.fresh S (fun H0 a=>by
   have:=m.dC;have:=m.dF;rcases a with g | g | g
   .omega
   .omega
   .exact m.gN H0 g)
 .exact g4
 .rw[T.keep _ (by have:=z.next;have:=j.ltF;omega) (fun g=>m.ne g.symm)];exact a3
 .exact m.pf.frame fun kv L gl U=>m.keep ⟨U,fun H0 a=>⟨m.gf kv L H0 a,m.gx kv L H0 a⟩⟩ S
 .rw[a5];have:=Q.mono T (fun H0 a g=>a4 (g▸a));simpa using this
 .intro H0 a;rcases I H0 a with g | g
  .exact m.gN H0 g
  .have:=j.prs.next;omega
 .intro kv L H0 a u;obtain⟨F,hi⟩:=List.mem_iff_getElem.1 L;have a7:H0<B.next:=by
   have hp: ∀ {es:List (AV×AV)} {q:PN},uH B es q-> ∀kv∈es,∃gl,kN B kv.2 gl:=by
    intro es
    induction es with
    | nil=>intro q _ kv m;simp at m
    | cons g es ih=>
     intro q K kv V
     match q,K with
     | (M,gl)::q,K=>
      rcases zO.1 V with rfl | V
      .exact⟨gl,K.1.2⟩
      .exact ih K.2 kv V
   obtain⟨gl,U⟩:=hp m.pf kv L;exact U.lt a
  rcases I H0 u with g | g
  .exact m.gf kv L H0 a g
  .have:=G.next;omega
theorem zHF{f:PN}(p:Ch X H B k w t h f i v e C)(L:xU X B i q A)(hb:C<=900000000):
  ∃H',f127 D n [.ptr w 0,q] B=some (.agg (jX (pp (C+1))),H')/\Ch X H H' k w t (h++[(.int .u64 (C+1:Nat),q)]) (f++[(C+1,A)]) i v e (C+1)/\Adv w t B i H' i:=by
 obtain⟨l,rfl,ll,lc⟩:=L.1.cells;obtain⟨H1,A3,b1,M,g1,m1,n1⟩:=box p.prs.ok (.cells l 119 1 false);obtain⟨H2,A4,b2,S,g2,m2,n2⟩:=box M.ok (.cells [.int .i64 (0:Nat), .int .i64 (0:Nat), .int .u64 (0:Nat)] 42 1 false);have Y:=M.trans S;have y:=p.step Y;obtain⟨K,e3,g,u,n3⟩:=xI y.prs.ok y.gC (o:=1) (x:= .int .u64 (C+1:Nat)) rfl (by simp);have g:K.h.get w=some (.cells [.ptr k 0, .int .u64 (C+1:Nat), .map t,i] 242 1 false):=g;have U:K.h.get t=some (.map [10] h):=by rw[u.keep _ y.ltF (fun F=>p.ne F.symm)];exact y.gF
 have a1:vB (.int .u64 (C+1:Nat)) h=none:=(p.pf.find (C+1)).2 (by
  cases N:jZ (C+1) f with
  | none=>rfl
  | some a2=>have:=p.fs _ _ N;omega)
 have Z:upM [10] (.map t) (.int .u64 (C+1:Nat)) (.agg l) K=some (jU,K.put t (.map [10] (h++[(.int .u64 (C+1:Nat), .agg l)]))):=by
  simp only[upM,zNE,zU,U,show YO [10] [10]=true from rfl,setA_none a1,wR]
 have V:(K.put t (.map [10] (h++[(.int .u64 (C+1:Nat), .agg l)]))).h.get t=some (.map [10] (h++[(.int .u64 (C+1:Nat), .agg l)])):=by rw[zOF,if_pos rfl]
 have z:Stp (fun H0=>H0=t) K (K.put t (.map [10] (h++[(.int .u64 (C+1:Nat), .agg l)]))):=(zOJ u.ok).put (u.ok.lt U) _ (.inr rfl);generalize K.put t (.map [10] (h++[(.int .u64 (C+1:Nat), .agg l)]))=H4 at Z V z;have W:H4.h.get w=some (.cells [.ptr k 0, .int .u64 (C+1:Nat), .map t,i] 242 1 false):=by rw[z.keep _ (u.ok.lt g) p.ne];exact g
 have a9:=p.ltC;have b0:=p.ltF;have N1:=M.next;have N2:=S.next;have N3:=u.next;have N4:=z.next
 have a3:H4.h.get A4=some (.cells [.int .i64 (0:Nat), .int .i64 (0:Nat), .int .u64 (0:Nat)] 42 1 false):=by
  rw[z.keep _ (by omega) (by omega),u.keep _ n2 (by omega)];exact g2
 have a4:ldN 4 (.ptr A3 0) K=some (.agg l):=uG (e:=119) (by rw[u.keep _ (by omega) (by omega)];exact zOM S M.ok g1) ll;obtain⟨G,e5,g5,s5,n5⟩:=kE z.ok a3 (l':=jX (pp (C+1))) rfl rfl;have a5:stN 3 (.ptr A4 0) (.agg (jX (pp (C+1)))) H4=some (jU,G):=e5;have S4:Stp (chg w t i) B H4:=((Y.mono (fun _ _ x=>x.elim)).trans (u.mono (fun _ _ x=> .inl x))).trans (z.mono (fun _ _ x=> .inr (.inl x)));have O:Stp (chg w t i) B G:=⟨s5.ok,qR S4.next s5.next,fun gl hA hS=>by rw[s5.keep gl (by omega) (by omega),S4.keep gl hA hS]⟩
 have a0:Adv w t B i G i:=⟨O,fun H0 j=> .inl j⟩;have a6:IntKind.wrap .u64 ((C:Int)+((1:Nat):Int))=((C+1:Nat):Int):=by rw[wrap_u64];omega
 have bs:uO [(0,1),(1,1),(2,1)] [.int .i64 (0:Nat), .int .i64 (0:Nat), .int .u64 (0:Nat)] [(0, .int .i64 (1:Nat)),(2, .int .u64 (C+1:Nat))]=some (.agg (jX (pp (C+1)))):=rfl;have r5:ldN 3 (.ptr A4 0) G=some (.agg (jX (pp (C+1)))):=by rw[jW g5];rfl
 have a7:=p.keep L O;refine⟨G, ?_,⟨?_, ?_, ?_, ?_, ?_,p.gN, ?_,p.dC,p.dF,p.ne, ?_,by have:=p.le;omega,by have:=p.few;omega, ?_,by have:=p.fl;simp;omega,fun kv m H0 j=> ?_,p.xo⟩,a0⟩
 .simp(maxSteps:=999999)(disch:=omega) only[f127,eZ,b1,b2,jR y.gC,a6,e3,jR g,a4,Z,jR W,bs,a5,r5]
 .exact p.prs.fresh O (fun H0 j=>by
   have:=p.dC;have:=p.dF;rcases j with F | F | F
   .omega
   .omega
   .exact p.gN H0 F)
 .rw[s5.keep _ (by omega) (by omega)];exact W
 .rw[s5.keep _ (by omega) (by omega)];exact V
 .exact uH.snoc a7 (p.pf.frame fun kv m A hn=>p.keep ⟨hn,fun H0 j=>⟨p.gf kv m H0 j,p.gx kv m H0 j⟩⟩ O)
 .have nC: ∀H0,Blk i H0-> ¬H0=w:=fun H0 j F=>by
   subst F;obtain⟨_,⟨rfl,_⟩ | ⟨gl,rfl,_,I⟩⟩:=p.gg
   .exact zOO.1 j
   .rw[<-zOG.1 j,p.gC]at I;simp at I
  have nF: ∀H0,Blk i H0-> ¬H0=t:=fun H0 j F=>by
   subst F;obtain⟨_,⟨rfl,_⟩ | ⟨gl,rfl,_,I⟩⟩:=p.gg
   .exact zOO.1 j
   .rw[<-zOG.1 j,p.gF]at I;simp at I
  exact(((y.gg.mono u nC).mono z nF).mono s5 (fun H0 j F=>by have:=zOR p.gg.row j;omega))
 .intro kv m H0 j;rcases qB.1 m with m | m
  .exact p.gf kv m H0 j
  .simp only[yF]at m;subst m;exact(L.2 H0 j).1
 .intro s a2 J;rw[v8]at J
  cases N:jZ s f with
  | some a8=>have:=p.fs _ _ N;omega
  | none=>
   rw[N]at J;simp only[jZ]at J;split at J
   .have:=p.le;omega
   .cases J
 .rw[List.map_append,List.nodup_append];refine⟨p.fd,by simp,fun a ha b hb F=> ?_⟩;simp only[yK,List.map_nil,yF]at hb;subst hb;subst F;obtain⟨a8,y⟩:=gV ha;have:=p.fs _ _ y;omega
 .rcases qB.1 m with m | m
  .exact p.gx kv m H0 j
  .simp only[yF]at m;subst m;exact(L.2 H0 j).2
open Go.Nd (cutOk cutA aU)
inductive CutsN:Nd.Node->List Nd.Node->List Str->Prop
 | one {nd:Nd.Node} :Nd.size nd<=500->CutsN nd [nd] []
 | more {nd:Nd.Node} {k:Nat} {ps:List Nd.Node} {ss:List Str} :500<Nd.size nd->cutOk nd k->hbnd nd k->CutsN (aU nd k) ps ss->CutsN nd (cutA nd k::ps) (nd.keys.getD k []::ss)
def Par (H:AH):List (List AV)->List Nd.Node->Prop
 | [],[]=>True
 | l::vs,nd::nds=>(l.length=4/\jV l=true/\kN H (.agg l) nd)/\Par H vs nds
 | _,_=>False
theorem Par.len {H:AH} : ∀ {vs:List (List AV)} {i:List Nd.Node},Par H vs i->vs.length=i.length/\vs.flatten.length=i.length*4/\jV vs.flatten=true
 | [],[],_=>⟨rfl,rfl,rfl⟩
 | l::vs,_::i,h=>by
  obtain⟨a,b,c⟩:=Par.len h.2;refine⟨by simp[a], ?_, ?_⟩
  .rw[List.flatten_cons,zV,b,h.1.1,zY];omega
  .rw[List.flatten_cons,wK];intro x f;rcases qB.1 f with f | f
   .exact wK.1 h.1.2.1 x f
   .exact wK.1 c x f
 | [],_::_,h=>h.elim
 | _::_,[],h=>h.elim
theorem Par.frame {H H':AH} : ∀ {vs:List (List AV)} {f:List Nd.Node},Par H vs f->(∀l∈vs,∀a,kN H (.agg l) a->kN H' (.agg l) a)->Par H' vs f
 | [],[],_,_=>trivial
 | l::vs,a::f,h,hf=>⟨⟨h.1.1,h.1.2.1,hf l (zJ ..) a h.1.2.2⟩,Par.frame h.2 fun l hl=>hf l (zE _ hl)⟩
 | [],_::_,h,_=>h.elim
 | _::_,[],h,_=>h.elim
theorem Par.snoc {H:AH}{l:List AV}{f:Nd.Node}(i:l.length=4/\jV l=true/\kN H (.agg l) f): ∀ {vs:List (List AV)} {a:List Nd.Node},Par H vs a->Par H (vs++[l]) (a++[f])
 | [],[],_=>⟨i,trivial⟩
 | _::vs,_::a,h=>⟨h.1,Par.snoc i h.2⟩
 | [],_::_,h=>h.elim
 | _::_,[],h=>h.elim
theorem Par.mem {H:AH} : ∀ {vs:List (List AV)} {f:List Nd.Node} {l:List AV},Par H vs f->l∈vs-> ∃a,kN H (.agg l) a
 | [],[],_,_,hl=>by simp at hl
 | k::vs,a::f,l,h,hl=>by
  rcases zO.1 hl with rfl | hl
  .exact⟨a,h.1.2.2⟩
  .exact Par.mem h.2 hl
 | [],_::_,_,h,_=>h.elim
 | _::_,[],_,h,_=>h.elim
theorem zOo (e:TypeId)(l:List AV)(hl:l.length=4)(z:List AV)(a:z.length=4):Q0 e 4 1 z [(0, .agg l)]=some (.cells l e 4 false,fun A=> .slice A 0 1 2):=by
 match z,a with
 | [_,_,_,_],_=>match l,hl with
  | [_,_,_,_],_=>rfl
theorem src4 (h:H.h.get k=some (.cells l w 4 M))(hl:l.length=4)(cc:Nat):srcOf 4 (.slice k 0 1 cc) H=some (1,l):=by
 simp only[srcOf,h,kZ _ _ _ (.inr (show 0+1*4<=l.length by omega)),yD,zZ (show l.length<=1*4 by omega)]
theorem JS (h:Nd.shaped ltS A=true)(j:500<Nd.size A):bW A:=by
 have i: ∀k∈A.keys,k.length<=40:=fun k i=>by
  simp only[Nd.shaped,zF,yC]at h;have:=h.1.1 k i;simp only[Nd.mayK,zF,zQ]at this;omega
 have b1: ∀(c:Nat) (l:List Str),(∀k∈l,k.length<=c)->sumL l<=(c+1)*l.length:=by
  intro c l
  induction l with
  | nil=>simp[sumL]
  | cons a l ih=>
   intro h;have:=ih fun k i=>h k (zE _ i)
   have:=h a (zJ ..);rw[Nd.sumL_cons,zY,Nat.mul_succ];omega
 have k1:=b1 40 A.keys i;simp only[Nd.size]at j
 cases hl:A.leaf with
 | true=>
  simp only[Nd.shaped,hl,if_true,zF,zQ,yC]at h;have k2:=b1 200 A.vals fun v m=>h.2.2 v m
  rw[h.2.1.2,yS]at j;rw[h.2.1.1]at k2;exact⟨by omega, .inl hl⟩
 | false=>
  simp only[Nd.shaped,hl,zM,qE,zF,zQ]at h;rw[h.2.1.1.2]at j;have:sumL []=0:=rfl;rw[h.2.1.2]at j;exact⟨by omega, .inr (by omega)⟩
theorem xW (h:Nd.size A<=10000):small A:=by
 simp only[Nd.size]at h;exact⟨by omega,by omega,by omega⟩
theorem zB2(hn:200000000<=n)(hk:H.ok)(h:kN H i A)(f4:Nd.shaped ltS A=true)(hz:Nd.size A<=10000):
  ∃q v H' vs p s,f177 D n [i] H=some (.tuple [q,v, .int .i64 (0:Nat)],H')/\Prs H H'/\CutsN A p s/\Own 4 119 H' q p.length vs.flatten/\Par H' vs p/\Own 1 9 H' v s.length (s.map S)/\
   (∀B,Blk q B->H.next<=B)/\(∀B,Blk v B->H.next<=B)/\ ∀l∈vs,∀B,vV (.agg l) B->vV i B\/H.next<=B:=by
 obtain⟨l0,rfl,f5,f6⟩:=h.cells;obtain⟨H1,F,b1,p1,g1,m1,n1⟩:=box hk (.cells l0 119 1 false);have lp:Fin (kL n (zAP D n) [.ptr F 0, .nS, .nS] H1) fun x H'=> ∃l j vs p s q v,x= .exit 0 [.ptr F 0,q,v]/\Prs H H'/\H'.h.get F=some (.cells l 119 1 false)/\l.length=4/\jV l=true/\kN H' (.agg l) j/\Nd.size j<=500/\
   (∀a0 a3,CutsN j a0 a3->CutsN A (p++a0) (s++a3))/\Own 4 119 H' q p.length vs.flatten/\Par H' vs p/\Own 1 9 H' v s.length (s.map S)/\(∀B,Blk q B->H.next<=B)/\(∀B,Blk v B->H.next<=B)/\
   (∀B,vV (.agg l) B->vV (.agg l0) B\/H.next<=B)/\(∀l∈vs,∀B,vV (.agg l) B->vV (.agg l0) B\/H.next<=B)/\p.length<=10000:=by
  refine Fin.loop (fun k us H'=> ∃l j vs p s q v,us=[.ptr F 0,q,v]/\Prs H H'/\H'.h.get F=some (.cells l 119 1 false)/\l.length=4/\jV l=true/\kN H' (.agg l) j/\Nd.shaped ltS j=true/\
   (∀a0 a3,CutsN j a0 a3->CutsN A (p++a0) (s++a3))/\Own 4 119 H' q p.length vs.flatten/\Par H' vs p/\Own 1 9 H' v s.length (s.map S)/\(∀B,Blk q B->H.next<=B)/\(∀B,Blk v B->H.next<=B)/\
   (∀B,vV (.agg l) B->vV (.agg l0) B\/H.next<=B)/\(∀l∈vs,∀B,vV (.agg l) B->vV (.agg l0) B\/H.next<=B)/\(∀B,vV (.agg l) B-> ¬Blk v B)/\(∀l∈vs,∀B,vV (.agg l) B-> ¬Blk v B)/\s.length=p.length/\p.length+Nd.size j<=10000/\k=Nd.size j) ?_ n (Nd.size A) _ H1
   ⟨l0,A,[],[],[], .nS, .nS,rfl,p1,g1,f5,f6,h.prs p1,f4,fun _ _ h=>h,zOP ..,trivial,zOP ..,fun B f=>(zOO.1 f).elim,fun B f=>(zOO.1 f).elim,fun B f=> .inl f,by simp,fun B _ f=>(zOO.1 f).elim,by simp,rfl,by simpa using hz,rfl⟩ (by omega)
  rintro k us H' ⟨l,j,vs,p,s,q,v,rfl,P,Q,M,lc,hG,a9,b0,N,a7,T,bP,bS,bl,b2,al,f7,d8,i3,rfl⟩
  have d1:small j:=xW (by omega);obtain⟨z,H2,e2,rfl,J⟩:=JR D n P.ok hG.node d1 hn;have P2:=P.trans J;have g2:=zOM J P.ok Q;by_cases c8:500<Nd.size j
  case neg=>
   have c0: ¬((500:Nat):Int)< ((Nd.size j:Nat):Int):=by omega
   refine⟨.exit 0 [.ptr F 0,q,v],H2, ?_,l,j,vs,p,s,q,v,rfl,P2,g2,M,lc,hG.prs J,by omega,b0,N.mono J (fun _ _ x=>x),a7.frame (fun l hl A hn=>hn.prs J),T.mono J (fun _ _ x=>x),bP,bS,bl,b2,by omega⟩;simp(disch:=omega) only[zAP,eZ,uG Q M,e2,c0]
  case pos=>
  have c0:((500:Nat):Int)< ((Nd.size j:Nat):Int):=by omega
  have f8:=JS a9 c8;obtain⟨va,sep,vb,e,H3,e3,L,hc⟩:=zOc D n hn P2.ok (hG.prs J) d1;rcases hc with⟨rfl,k,_,c1,hb,rfl,ga,gb⟩ | ⟨_,_,f9,_⟩
  case inr=>exact absurd ⟨a9,f8⟩ f9
  have P3:=P2.trans L;have d2:Prs H' H3:=J.trans L;obtain⟨U,rfl,a8,c2⟩:=ga.1.cells;obtain⟨V,rfl,c3,c4⟩:=gb.1.cells;obtain⟨H4,A7,b4,p4,g4,m4,n4⟩:=box P3.ok (.cells [.bool false, .nS, .nS, .nS] 119 1 false);obtain⟨H5,A9,b5,p5,g5,m5,n5⟩:=box p4.ok (.cells [.bool false, .nS, .nS, .nS] 119 1 false);obtain⟨H6,e6,g6,s6,n6⟩:=kE p5.ok (zOM p5 p4.ok g4) (l':=U) a8 c2;have g0:stN 4 (.ptr A7 0) (.agg U) H5=some (jU,H6):=e6;obtain⟨H7,e7,g7,s7,n7⟩:=kE s6.ok (show H6.h.get A9=some (.cells [.bool false, .nS, .nS, .nS] 119 1 false)by rw[s6.keep _ n5 (by omega)];exact g5) (l':=V) c3 c4;have g9:stN 4 (.ptr A9 0) (.agg V) H6=some (jU,H7):=e7;have N3:=d2.next;have N4:=p4.next;have N5:=p5.next
  have d3:Prs H3 H7:=((p4.trans p5).fresh s6 (fun B f=>by omega)).fresh s7 (fun B f=>by omega);have h0:H7.h.get A7=some (.cells U 119 1 false):=by rw[s7.keep _ (by omega) (by omega)];exact g6
  obtain⟨W,i5,b8,p8,g8,m8,n8⟩:=box d3.ok (.cells U 119 4 false);have a4:Prs H3 W:=d3.trans p8;have Y:Prs H' W:=d2.trans a4;obtain⟨H9,e9,o9,K,n9⟩:=bK (bytes:=80) a4.ok (by decide) (N.mono Y (fun _ _ x=>x)) (src4 g8 a8 2) (by omega) c2 (by omega) (by omega) (by decide);have N8:=a4.next
  have nP: ∀(l:List AV) (A:Nd.Node),kN W (.agg l) A-> ∀B,vV (.agg l) B-> ¬Blk q B:=fun l A t B f hp=>by
   obtain⟨_,⟨rfl,_⟩ | ⟨C,rfl,_,y⟩⟩:=N.mono Y (fun _ _ x=>x)
   .exact zOO.1 hp
   .rw[zOG.1 hp]at f;exact t.nblk y (.inr (.inr ⟨_,_,_,_,rfl,by decide,by decide⟩)) f
  have d4:=T.mono Y (fun _ _ x=>x);have c5: ∀B,Blk v B-> ¬Blk q B:=fun B f hp=>by
   obtain⟨_,⟨rfl,_⟩ | ⟨C,rfl,_,y⟩⟩:=N.mono Y (fun _ _ x=>x)
   .exact zOO.1 hp
   .obtain⟨_,⟨rfl,_⟩ | ⟨E,rfl,_,c6⟩⟩:=d4
    .exact zOO.1 f
    .rw[<-zOG.1 hp,zOG.1 f,c6]at y;simp at y
  obtain⟨b6,h1,h2,G,h3,i6,i7⟩:=box K.ok (.cells [S (j.keys.getD k [])] 9 1 false);have d9:=(d4.mono K c5).mono G (fun _ _ x=>x);have e0:srcOf 1 (.slice h1 0 1 2) b6=some (1,[S (j.keys.getD k [])]):=by
   have:=Rw.srcOf (Rw.lit (cc:=2) G.ok h3);exact this
  obtain⟨a5,h4,h5,Z,i8⟩:=bK (bytes:=16) G.ok (by decide) d9 e0 rfl rfl (by omega) (by omega) (by decide);have i4:F<H'.next:=P.ok.lt Q
  have fr: ∀(l:List AV) (A:Nd.Node),kN W (.agg l) A->(∀B,vV (.agg l) B-> ¬Blk v B)->kN a5 (.agg l) A:=fun l A t ha=>
   ((t.stp K (nP l A t)).prs G).stp Z ha
  have c9: ∀B,Blk v B->B<H3.next:=fun B f=>by have:=zOR T.row f;omega
  have d5:=ga.1.prs a4;have d6:=gb.1.prs a4;have fA: ∀B,vV (.agg U) B-> ¬Blk v B:=fun B f O=>by have:=ga.2 B f;have:=zOR T.row O;have:=J.next;omega
  have fB: ∀B,vV (.agg V) B-> ¬Blk v B:=fun B f O=>by have:=gb.2 B f;have:=zOR T.row O;have:=J.next;omega
  have e1:=fr U _ d5 fA;have e5:=fr V _ d6 fB;have c7: ∀(l:List AV) (A:Nd.Node),kN W (.agg l) A-> ∀B,vV (.agg l) B->B<b6.next:=fun l A t B f=>by have:=t.lt f;have:=K.next;have:=G.next;omega
  have d0:a5.h.get F=some (.cells l 119 1 false):=by
   have e8:W.h.get F=some (.cells l 119 1 false):=zOM Y P.ok Q;have np: ¬Blk q F:=fun hp=>by
    obtain⟨_,⟨rfl,_⟩ | ⟨C,rfl,_,y⟩⟩:=N
    .exact zOO.1 hp
    .rw[<-zOG.1 hp,Q]at y;simp at y
   have ns: ¬Blk v F:=fun hp=>by
    obtain⟨_,⟨rfl,_⟩ | ⟨C,rfl,_,y⟩⟩:=T
    .exact zOO.1 hp
    .rw[<-zOG.1 hp,Q]at y;simp at y
   rw[Z.keep _ (by have:=K.next;have:=G.next;omega) ns,G.keep _ (by have:=K.next;omega) (fun x=>x),K.keep _ (by omega) np];exact e8
  obtain⟨b7,d7,h6,b9,i9⟩:=kE Z.ok d0 (l':=V) (by omega) c4;have f1:stN 4 (.ptr F 0) (.agg V) a5=some (jU,b7):=by rw[M]at d7;exact d7
  have r9:ldN 4 (.ptr A9 0) a5=some (.agg V):=uG (e:=119) (by
   have np: ¬Blk q A9:=fun hp=>by have:=zOR N.row hp;omega
   have ns: ¬Blk v A9:=fun hp=>by have:=c9 _ hp;omega
   rw[Z.keep _ (by have:=K.next;have:=G.next;have:=p8.next;omega) ns,G.keep _ (by have:=K.next;have:=p8.next;omega) (fun x=>x),K.keep _ (by have:=p8.next;omega) np,p8.keep _ (by omega) (fun x=>x)];exact g7) c3
  have a6: ∀(u:List AV) (I:Nd.Node),kN a5 (.agg u) I->kN b7 (.agg u) I:=fun u I t=>t.stp b9 (fun B f e=>by
   subst e;have: ∃x r,l=x::r/\ ∀a b,x≠ .str a b:=by
    obtain⟨ks,vs',ps,ee,_⟩:=hG;simp only[AV.agg.injEq]at ee;exact⟨_,_,ee,fun _ _ e=>by cases e⟩
   obtain⟨x,r,rfl,hx⟩:=this;exact t.nblk d0 (.inl ⟨x,r,_,_,rfl,hx⟩) f)
  have Pn:Prs H b7:=by
   have a1:Prs H H9:=(P3.trans a4).fresh K bP;have a2:Prs H a5:=(a1.trans G).fresh Z bS;exact a2.fresh b9 (fun B f=>by omega)
  have f2:=Nd.cut_size a9 c1;have h7:=Nd.cut_shaped a9 c1;have N9:=K.next;have j0:=G.next;have j1:=Z.next
  have PN:=P.next
  refine⟨.norm [.ptr F 0, .slice W.next 0 (p.length+1) 1, .slice b6.next 0 (s.length+1) 1],b7, ?_,Nd.size (aU j k),f2.2,V,aU j k,vs++[U],p++[cutA j k],s++[j.keys.getD k []], .slice W.next 0 (p.length+1) 1, .slice b6.next 0 (s.length+1) 1,rfl,Pn,h6,c3,c4,a6 _ _ e5,h7.2,fun a0 a3 h8=> ?_, ?_, ?_, ?_,fun B f=> ?_,fun B f=> ?_,fun B f=> ?_,fun u m B f=> ?_,fun B f O=> ?_,fun u m B f O=> ?_,by simp[d8], ?_,rfl⟩
  .simp(maxSteps:=999999)(disch:=omega) only[zAP,eZ,uG Q M,e2,c0,uG g2 M,e3,jS,nth,b4,b5,g0,g9,ne_eq,not_true_eq_false,uG h0 a8,zOo 119 U a8 [.bool false, .nS, .nS, .nS] rfl,zY,yS,b8,e9,zLg 9 (.str 0 0) (YK (j.keys.getD k [])),h2,h4,r9,f1]
  .rw[qH,qH];exact b0 _ _ (.more c8 c1 hb h8)
  .have h9:=((o9.mono G (fun _ _ x=>x)).mono Z (fun B f O=>by rw[zOG.1 f]at O;have:=c9 _ O;omega)).mono b9 (fun B f e=>by rw[zOG.1 f]at e;omega);simpa using h9
  .refine Par.snoc ⟨a8,c2,a6 _ _ e1⟩ (a7.frame fun u m I t=>a6 _ _ (fr u I (t.prs Y) (f7 u m)))
  .have f3:=h5.mono b9 (fun B f e=>by rw[zOG.1 f]at e;omega);simpa using f3
  .rw[zOG.1 f];omega
  .rw[zOG.1 f];omega
  .exact .inr (by have:=gb.2 B f;have:=J.next;omega)
  .rcases qB.1 m with m | m
   .exact b2 u m B f
   .simp only[yF]at m;subst m;exact .inr (by have:=ga.2 B f;have:=J.next;omega)
  .rw[zOG.1 O]at f;have:=c7 _ _ d6 _ f;omega
  .rw[zOG.1 O]at f;rcases qB.1 m with m | m
   .obtain⟨I,i0⟩:=a7.mem m;have:=c7 _ _ (i0.prs Y) _ f;omega
   .simp only[yF]at m;subst m;have:=c7 _ _ d5 _ f;omega
  .simp only[zV,zY,yS];omega
 obtain⟨x,H2,e2,l,j,vs,p,s,q,v,rfl,P,Q,M,lc,hG,i1,b0,N,a7,T,bP,bS,bl,b2,i2⟩:=lp;obtain⟨H3,A3,b3,L,g3,m3,n3⟩:=box P.ok (.cells l 119 4 false);obtain⟨H4,e4,o4,s4,n4⟩:=bK (bytes:=80) L.ok (by decide) (N.mono L (fun _ _ x=>x)) (src4 g3 M 2) (by omega) lc (by omega) (by omega) (by decide);have nP: ∀(l:List AV) (A:Nd.Node),kN H3 (.agg l) A-> ∀B,vV (.agg l) B-> ¬Blk q B:=fun l A t B f hp=>by
  obtain⟨_,⟨rfl,_⟩ | ⟨C,rfl,_,y⟩⟩:=N.mono L (fun _ _ x=>x)
  .exact zOO.1 hp
  .rw[zOG.1 hp]at f;exact t.nblk y (.inr (.inr ⟨_,_,_,_,rfl,by decide,by decide⟩)) f
 have c5: ∀B,Blk v B-> ¬Blk q B:=fun B f hp=>by
  obtain⟨_,⟨rfl,_⟩ | ⟨C,rfl,_,y⟩⟩:=N
  .exact zOO.1 hp
  .obtain⟨_,⟨rfl,_⟩ | ⟨E,rfl,_,c6⟩⟩:=T
   .exact zOO.1 f
   .rw[<-zOG.1 hp,zOG.1 f,c6]at y;simp at y
 have a6: ∀(u:List AV) (I:Nd.Node),kN H2 (.agg u) I->kN H4 (.agg u) I:=fun u I t=>(t.prs L).stp s4 (nP u I (t.prs L))
 have N3:=L.next;have PN:=P.next
 refine⟨.slice H3.next 0 (p.length+1) 1,v,H4,vs++[l],p++[j],s, ?_,(P.trans L).fresh s4 bP, ?_, ?_,Par.snoc ⟨M,lc,a6 _ _ hG⟩ (a7.frame fun u m I t=>a6 _ _ t),(T.mono L (fun _ _ x=>x)).mono s4 c5,fun B f=> ?_,bS,fun u m B f=> ?_⟩
 .simp(maxSteps:=999999)(disch:=omega) only[f177,eZ,b1,e2,zKn,uG Q M,zOo 119 l M [.bool false, .nS, .nS, .nS] rfl,zY,yS,b3,e4]
 .have:=b0 [j] [] (.one i1);rwa[qW]at this
 .simpa using o4
 .rw[zOG.1 f];omega
 .rcases qB.1 m with m | m
  .exact b2 u m B f
  .simp only[yF]at m;subst m;exact bl B f
end Go.Eng.Sh
end
section
namespace Go.Eng
theorem Own.ne (h:Own k w H i t l)(a:H.h.get e=some R)(n: ∀l w g,R≠ .cells l w k g): ¬Blk i e:=fun f=>by
 obtain⟨_,⟨rfl,_⟩ | ⟨B,rfl,_,j⟩⟩:=h
 .exact zOO.1 f
 .rw[zOG.1 f]at a;rw[j]at a;exact n _ _ _ (yG a).symm
theorem Own.get {k e n:Nat}{H:AH}{v:AV}{l:List AV}(h:Own k e H v n l){B:Nat}(a:Blk v B):H.h.get B=some (.cells l e k true):=by
 obtain⟨_,⟨rfl,_⟩ | ⟨C,rfl,_,f⟩⟩:=h
 .exact(zOO.1 a).elim
 .rw[zOG.1 a];exact f
def zOQ:=@Own.get
end Go.Eng
namespace Go.Eng.Sh
open Go.Nd (Ptr sumL)
variable {X:Nat->Prop}
def vC (a:Nat):List Nd.Node->PN
 | []=>[]
 | nd::nds=>(a+1,nd)::vC (a+1) nds
def WG (a:Nat):List (List AV)->List (AV×AV)
 | []=>[]
 | l::vs=>(.int .u64 (a+1:Nat), .agg l)::WG (a+1) vs
def pps (a:Nat):Nat->List Ptr
 | 0=>[]
 | n+1=>pp (a+1)::pps (a+1) n
theorem VF (x:Nd.Node): ∀(l:List Nd.Node) (f:Nat),vC f (l++[x])=vC f l++[(f+l.length+1,x)]
 | [],f=>rfl
 | a::l,f=>by
  simp only[qF,vC,VF x l,zY];rw[show f+1+l.length+1=f+(l.length+1)+1 from by omega]
theorem VG (x:List AV): ∀(l:List (List AV)) (f:Nat),WG f (l++[x])=WG f l++[(.int .u64 (f+l.length+1:Nat), .agg x)]
 | [],f=>rfl
 | a::l,f=>by
  simp only[qF,WG,VG x l,zY];rw[show f+1+l.length+1=f+(l.length+1)+1 from by omega]
theorem zCH: ∀(n a:Nat),pps a (n+1)=pps a n++[pp (a+n+1)]
 | 0,a=>rfl
 | n+1,a=>by
  rw[pps,zCH n (a+1),pps,qF,show a+1+n+1=a+(n+1)+1 from by omega]
theorem dD: ∀(n a:Nat),(pps a n).length=n
 | 0,_=>rfl
 | n+1,a=>by simp[pps,dD n (a+1)]
theorem zAr: ∀ {vs:List (List AV)} {a:Nat} {kv:AV×AV},kv∈WG a vs-> ∃l∈vs,kv.2= .agg l
 | [],_,_,h=>by simp[WG]at h
 | l::vs,a,kv,h=>by
  rcases zO.1 h with rfl | h
  .exact⟨l,zJ ..,rfl⟩
  .obtain⟨l',f,i⟩:=zAr h;exact⟨l',zE _ f,i⟩
theorem Ch.other {f:PN}(o:Ch X H B k w t h f i v e C)(s:Stp F B N)(H': ¬F w)(u: ¬F t)(a: ∀H0,Blk i H0-> ¬F H0)(x: ∀kv∈h,∀H0,vV kv.2 H0-> ¬F H0)(y: ∀H0,F H0->H.next<=H0):Ch X H N k w t h f i v e C:=
 ⟨o.prs.fresh s y,by rw[s.keep _ o.ltC H'];exact o.gC,by rw[s.keep _ o.ltF u];exact o.gF,o.pf.frame fun kv p z q=>q.stp s (x kv p),o.gg.mono s a,o.gN,o.gf,o.dC,o.dF,o.ne,o.fs,o.le,o.few,o.fd,o.fl,o.gx,o.xo⟩
theorem uH.mem {H:AH} : ∀ {es:List (AV×AV)} {q:PN},uH H es q-> ∀kv∈es,∃f,kN H kv.2 f
 | [],[],_,_,a=>by simp at a
 | e::es,(t,f)::q,hq,kv,a=>by
  rcases zO.1 a with rfl | a
  .exact⟨f,hq.1.2⟩
  .exact uH.mem hq.2 kv a
 | [],_::_,h,_,_=>h.elim
 | _::_,[],h,_,_=>h.elim
theorem zK1 {H:AH} : ∀ {vs:List (List AV)} {a:List Nd.Node} {i:Nat} (_:Par H vs a) (hi:i<a.length),∃l f,vs[i]? =some l/\a[i]? =some f/\l.length=4/\jV l=true/\kN H (.agg l) f/\(vs.flatten.drop (i*4)).take 4=l/\vs.take (i+1)=vs.take i++[l]/\a.take (i+1)=a.take i++[f]
 | [],[],_,_,hi=>by simp at hi
 | l::vs,f::a,0,h,_=>⟨l,f,rfl,rfl,h.1.1,h.1.2.1,h.1.2.2,by simp[List.take_append_of_le_length,h.1.1,zZ],rfl,rfl⟩
 | k::vs,m::a,i+1,h,hi=>by
  obtain⟨l,f,j,o,p,q,h5,s,t,u⟩:=zK1 h.2 (by simpa using hi);refine⟨l,f,j,o,p,q,h5, ?_,by simp[t],by simp[u]⟩;rw[List.flatten_cons,List.drop_append,show(i+1)*4 - k.length=i*4 from by rw[h.1.1];omega,qS (by rw[h.1.1];omega),yE];exact s
 | [],_::_,_,h,_=>h.elim
 | _::_,[],_,h,_=>h.elim
theorem zBs(hn:200000000<=n){f:PN}(F:Ch X H B k w t h f i v e C)
  (hp:Own 4 119 B q L.length Q.flatten) (S:Par B Q L) (hg: ∀l∈Q,∀H0,vV (.agg l) H0-> ¬Blk i H0/\ ¬X H0) (hb:C+L.length<=900000000) (hm:L.length<=10000):
  ∃kv H',f179 D n [.ptr w 0,q] B=some (kv,H')/\Ch X H H' k w t (h++WG C Q) (f++vC C L) i v e (C+L.length)/\Adv w t B i H' i/\Own 3 42 H' kv L.length ((pps C L.length).flatMap jX)/\ ∀H0,Blk kv H0->B.next<=H0:=by
 have W:=S.len.1;have lp:=fJ (b:=XS D n) L.length (fun M T H'=> ∃kv,T=[.ptr w 0,kv,q, .int .i64 (L.length:Nat), .int .i64 (M:Nat)]/\Ch X H H' k w t (h++WG C (Q.take M)) (f++vC C (L.take M)) i v e (C+M)/\Adv w t B i H' i/\
   Own 3 42 H' kv M ((pps C M).flatMap jX)/\ ∀H0,Blk kv H0->B.next<=H0) (fun M T H' hi ⟨kv,hus,z,a,U,o⟩=>by
  subst hus;obtain⟨l,nd,v1,v2,ll,lc,hG,a2,a4,a5⟩:=zK1 S hi;have b8:M<Q.length:=by omega
  have a6:l∈Q:=List.mem_of_getElem? v1;have hA:=F.next ⟨hG,hg l a6⟩ a
  have a7:Own 4 119 H' q L.length Q.flatten:=hp.mono a.1 (fun H0 o p=>by
   have u:=hp.get o;rcases p with rfl | rfl | gl
   .rw[F.gC]at u;simp at u
   .rw[F.gF]at u;simp at u
   .rw[F.gg.get gl]at u;simp at u)
  obtain⟨g,i1,i2⟩:=Rw.ldN a7.row hi;rw[a2]at i2;obtain⟨H1,A7,b1,p1,g1,m1,n1⟩:=box z.prs.ok (.cells [.bool false, .nS, .nS, .nS] 119 1 false);obtain⟨H2,V,g2,s2,n2⟩:=kE p1.ok g1 (l':=l) ll lc;have a8:stN 4 (.ptr A7 0) (.agg l) H1=some (jU,H2):=V;have G:Prs H' H2:=p1.fresh s2 (fun H0 o=>by omega);have a9:=z.step G;obtain⟨H3,e3,Y,N⟩:=zHF D n a9 (hA.prs G) (by omega);obtain⟨J,A8,b4,K,g4,m4,n4⟩:=box Y.prs.ok (.cells (jX (pp (C+M+1))) 42 3 false);have Z:=Y.step K;have a1:srcOf 3 (.slice A8 0 1 2) J=some (1,jX (pp (C+M+1))):=by
   simp only[srcOf,g4];rfl
  have NH:=a.1.next;have N2:=G.next;have N3:=N.1.next;have N4:=K.next
  have a0: ∀H0,Blk kv H0-> ¬Blk i H0:=fun H0 s u=>by have:=o H0 s;have:=zOR F.gg.row u;omega
  have b0:Own 3 42 J kv M ((pps C M).flatMap jX):=((U.mono G (fun _ _ x=>x)).mono N.1 (fun H0 s p=>by
   rcases p with rfl | rfl | gl
   .have:=o _ s;have:=F.ltC;omega
   .have:=o _ s;have:=F.ltF;omega
   .exact a0 H0 s gl)).mono K (fun _ _ x=>x)
  obtain⟨H5,e5,o5,s5,n5⟩:=bK (bytes:=24) Z.prs.ok (by decide) b0 a1 rfl rfl (by omega) (by omega) (by decide);have b2:=Z.other s5 (fun p=>by have:=o _ p;have:=F.ltC;omega) (fun p=>by have:=o _ p;have:=F.ltF;omega) (fun H0 u p=>a0 H0 p u) (fun gl y H0 I p=>by
   have b9:H0<B.next:=by
    rcases qB.1 y with y | y
    .rcases qB.1 y with y | y
     .obtain⟨b3,O⟩:=F.pf.mem gl y;exact O.lt I
     .obtain⟨l2,b5,V⟩:=zAr y;obtain⟨b3,O⟩:=S.mem (List.mem_of_mem_take b5);rw[V]at I;exact O.lt I
    .simp only[yF]at y;subst y;exact hG.lt I
   have:=o H0 p;omega) (fun H0 p=>by have:=o H0 p;have:=F.prs.next;omega)
  have b6:Adv w t B i H5 i:=by
   have a3:Adv w t B i J i:=((a.trans F.ltC F.ltF (Adv.prs i G)).trans F.ltC F.ltF N).trans F.ltC F.ltF (Adv.prs i K);refine⟨⟨s5.ok,by have:=s5.next;omega,fun H0 s hS=> ?_⟩,fun H0 s=> .inl s⟩
   rw[s5.keep H0 (by omega) (fun p=>by have:=o H0 p;omega)];exact a3.1.keep H0 s hS
  refine⟨_,H5, ?_, .slice J.next 0 (M+1) 1,rfl, ?_,b6, ?_,fun H0 s=>by rw[zOG.1 s];omega⟩
  .have b7:((M:Nat):Int)< (L.length:Int):=by omega
   have e1:=bldQ 42 (pp (C+M+1)) [.int .i64 (0:Nat), .int .i64 (0:Nat), .int .u64 (0:Nat)] rfl;simp(maxSteps:=999999)(disch:=omega) only[XS,eZ,b7,i1,i2,b1,a8,uG g2 ll,e3,e1,b4,e5,yH]
  .rw[a4,a5,VG,VF,qC,qC,Nat.min_eq_left (by omega),Nat.min_eq_left (by omega),<-qH,<-qH];exact b2
  .rw[zCH];simpa using o5) n [.ptr w 0, .nS,q, .int .i64 (L.length:Nat), .int .i64 (0:Nat)] B ⟨.nS,rfl,by simpa[WG,vC]using F,Adv.prs i (Prs.refl F.prs.ok),zOP ..,fun H0 o=>(zOO.1 o).elim⟩ (by omega)
 obtain⟨m,T,H',gl,kv,rfl,z,a,U,o⟩:=lp;rw[jG]at z;rw[<-W,jG,W]at z;refine⟨kv,H', ?_,z,a,U,o⟩;have C:kL (m+1) (XS D n) [.ptr w 0,kv,q, .int .i64 (L.length:Nat), .int .i64 (L.length:Nat)] H'=some (.exit 0 [kv],H'):=kD (by simp only[XS,eZ,yY]);simp only[f179,eZ,hp.row.lnSl,gl,C,zKl]
end Go.Eng.Sh
end
section
namespace Go.Bt
open Go.Nd (Str Kvs Ptr lookP putP delP Srt leafOf mayK rising sumL cutA aU dP shaped)
open Go.Eng (ltS)
def vG {α:Type}(Q:Ptr->Option Nd.Node)(R:Nd.Node->α->List Ptr->Prop):List Ptr->List α->List Ptr->Prop
 | [],[],S=>S=[]
 | p::ps,t::ts,S=> ∃a f h,Q p=some a/\R a t f/\vG Q R ps ts h/\S=p::(f++h)
 | _,_,_=>False
def wL (Q:Ptr->Option Nd.Node):(h:Nat)->Nd.Node->Tr h->List Ptr->Prop
 | 0,nd,l,S=>nd=leafOf l/\S=[]
 | h+1,nd,t,S=>nd.leaf=false/\nd.keys=t.1/\nd.vals=[]/\vG Q (wL Q h) nd.kids t.2 S
theorem vG.len {α:Type}{Q:Ptr->Option Nd.Node}{R:Nd.Node->α->List Ptr->Prop} : ∀ {a:List Ptr} {ts:List α} {S:List Ptr},vG Q R a ts S->a.length=ts.length
 | [],[],_,_=>rfl
 | _::a,_::ts,_,⟨_,_,_,_,_,h,_⟩=>by simp[vG.len h]
 | [],_::_,_,h=>h.elim
 | _::_,[],_,h=>h.elim
theorem vG.app {α:Type}{Q:Ptr->Option Nd.Node}{R:Nd.Node->α->List Ptr->Prop}{j:List Ptr}{m:List α}{f:List Ptr}(o:vG Q R j m f): ∀ {i:List Ptr} {ts:List α} {S:List Ptr},vG Q R i ts S->vG Q R (i++j) (ts++m) (S++f)
 | [],[],_,h=>by subst h;exact o
 | p::i,t::ts,_,⟨nd,S1,S2,a,b,c,e⟩=>⟨nd,S1,S2++f,a,b,vG.app o c,by rw[e];simp⟩
 | [],_::_,_,h=>h.elim
 | _::_,[],_,h=>h.elim
theorem vG.split {α:Type}{Q:Ptr->Option Nd.Node}{R:Nd.Node->α->List Ptr->Prop} : ∀(k:Nat) {f:List Ptr} {ts:List α} {S:List Ptr},vG Q R f ts S-> ∃i j,vG Q R (f.take k) (ts.take k) i/\vG Q R (f.drop k) (ts.drop k) j/\S=i++j
 | 0,f,ts,S,h=>⟨[],S,by simp[vG],h,rfl⟩
 | k+1,[],[],_,h=>⟨[],[],by simp[vG],by simp[vG],by subst h;rfl⟩
 | k+1,p::f,t::ts,_,⟨nd,i,j,a,b,c,e⟩=>by
  obtain⟨m,o,q,s,rfl⟩:=vG.split k c;exact⟨p::(i++m),o,⟨nd,i,m,a,b,q,rfl⟩,s,by rw[e];simp⟩
 | _+1,[],_::_,_,h=>h.elim
 | _+1,_::_,[],_,h=>h.elim
theorem vG.at {α:Type}{Q:Ptr->Option Nd.Node}{R:Nd.Node->α->List Ptr->Prop}{i:Nat}{f:List Ptr}{ts:List α}{S:List Ptr}(h:vG Q R f ts S){t:α}(u:ts[i]? =some t):
  ∃p j m o q,f[i]? =some p/\Q p=some j/\R j t o/\vG Q R (f.take i) (ts.take i) m/\vG Q R (f.drop (i+1)) (ts.drop (i+1)) q/\S=m++(p::o++q):=by
 obtain⟨m,x,v,s,rfl⟩:=h.split i;obtain⟨hi,rfl⟩:=qP.1 u;have hl:=h.len;rw[qN hi,qN (show i<f.length by omega)]at s;obtain⟨j,o,q,a,b,c,rfl⟩:=s;exact⟨_,j,m,o,q,zK (by omega),a,b,v,c,by simp⟩
theorem vG.mono {α:Type}{Q m:Ptr->Option Nd.Node}{R o:Nd.Node->α->List Ptr->Prop} : ∀ {j:List Ptr} {ts:List α} {S:List Ptr},vG Q R j ts S->(∀p∈S,∀f,Q p=some f->m p=some f)->(∀f t i,(∀p∈i,p∈S)->R f t i->o f t i)->vG m o j ts S
 | [],[],_,h,_,_=>h
 | p::j,t::ts,_,⟨f,i,S2,a,b,c,e⟩,hq,hr=>by
  subst e;refine⟨f,i,S2,hq p (zJ ..) f a,hr f t i (fun p hp=>zE _ (qX _ hp)) b,vG.mono c (fun p hp=>hq p (zE _ (qY _ hp))) (fun f t i q=>hr f t i fun p hp=>zE _ (qY _ (q p hp))),rfl⟩
 | [],_::_,_,h,_,_=>h.elim
 | _::_,[],_,h,_,_=>h.elim
theorem wL.mono {Q f:Ptr->Option Nd.Node} : ∀ {h:Nat} {a:Nd.Node} {t:Tr h} {S:List Ptr},wL Q h a t S->(∀p∈S,∀a,Q p=some a->f p=some a)->wL f h a t S
 | 0,_,_,_,w,_=>w
 | h+1,_,_,_,w,hq=>⟨w.1,w.2.1,w.2.2.1,w.2.2.2.mono hq fun a t j i hr=>wL.mono hr fun p hp=>hq p (i p hp)⟩
theorem vG.kids {α:Type}{Q:Ptr->Option Nd.Node}{R:Nd.Node->α->List Ptr->Prop} : ∀ {a:List Ptr} {ts:List α} {S:List Ptr},vG Q R a ts S-> ∀p∈a,p∈S
 | [],[],_,_=>by simp
 | q::a,_::ts,_,⟨nd,S1,S2,_,_,c,e⟩=>fun p hp=>by
  subst e;rcases zO.1 hp with rfl | hp
  .exact zJ ..
  .exact zE _ (qY _ (vG.kids c p hp))
 | [],_::_,_,h=>h.elim
 | _::_,[],_,h=>h.elim
theorem wL.size {Q:Ptr->Option Nd.Node}{h:Nat}{a:Nd.Node}{t:Tr h}{S:List Ptr}(w:wL Q h a t S):Nd.size a=wM h t:=by
 cases h with
 | zero=>obtain⟨rfl,_⟩:=w;rfl
 | succ h=>
  obtain⟨_,f,i,j⟩:=w;simp only[Nd.size,wM,wX,f,i,j.len,sumL_nil];omega
theorem wL.leaf {Q:Ptr->Option Nd.Node}{h:Nat}{a:Nd.Node}{t:Tr h}{S:List Ptr}(w:wL Q h a t S):a.leaf=decide (h=0):=by
 cases h with
 | zero=>obtain⟨rfl,_⟩:=w;rfl
 | succ h=>rw[w.1];simp
theorem wL.shaped {Q:Ptr->Option Nd.Node}{h:Nat}{f:Nd.Node}{t:Tr h}{S:List Ptr}{lo hi:Bd}(w:wL Q h f t S)(g:Gen h lo hi t)(m:0<h->f.keys≠[])(a: ∀p∈S,Nd.kidOk p=true):shaped ltS f=true:=by
 cases h with
 | zero=>
  obtain⟨rfl,_⟩:=w;exact Nd.leaf_shaped g.1 fun p hp=>(g.2 p hp).2.2
 | succ h=>
  obtain⟨o,i,q,j⟩:=w;obtain⟨s,u,v⟩:=g;have hl:=v.len;simp only[Nd.shaped,o,zM,qE,zF,zQ,yC];refine⟨⟨fun k a=> ?_,by rw[i];exact u⟩,⟨⟨m (by omega),q⟩,by rw[j.len,hl,i]⟩,fun p hp=>a p (j.kids p hp)⟩;rw[i]at a;exact(s k a).1
def zDJ (Q:Ptr->Option Nd.Node)(h:Nat):List Nd.Node->List (Tr h)->List Ptr->Prop
 | [],[],S=>S=[]
 | nd::nds,t::ts,S=> ∃a f,wL Q h nd t a/\zDJ Q h nds ts f/\S=a++f
 | _,_,_=>False
theorem zDJ.len {Q:Ptr->Option Nd.Node}{h:Nat} : ∀ {a:List Nd.Node} {ts:List (Tr h)} {S:List Ptr},zDJ Q h a ts S->a.length=ts.length
 | [],[],_,_=>rfl
 | _::a,_::ts,_,⟨_,_,_,h,_⟩=>by simp[zDJ.len h]
 | [],_::_,_,h=>h.elim
 | _::_,[],_,h=>h.elim
theorem zE9 (l:Kvs)(k:Nat):Nd.size (cutA (leafOf l) k)=wU (l.take k):=by
 simp[cutA,leafOf,wU,Nd.size]
theorem zII {l:Kvs}(a:Nd.cutOk (leafOf l) k)(hb:Go.Eng.Sh.hbnd (leafOf l) k):zMZ 0 l (l.take k) ((leafOf l).keys.getD k []) (l.drop k)/\cutA (leafOf l) k=leafOf (l.take k)/\aU (leafOf l) k=leafOf (l.drop k):=by
 obtain⟨k1,k2⟩:=a;obtain⟨b1,b2⟩:=hb;have f:(leafOf l).keys=l.map Prod.fst:=rfl;simp only[show(leafOf l).leaf=true from rfl,if_true,f,jH]at k2 b2;rw[zE9]at b1 b2;refine⟨⟨k,⟨k1,k2,b1,b2⟩,rfl,rfl,rfl⟩, ?_, ?_⟩
 .simp[cutA,leafOf]
 .simp[aU,leafOf]
theorem wL.cut {t:Tr k}{lo hi:Bd}(a:wL s k A t v)(g:Gen k lo hi t)(y:Nd.cutOk A w)(hb:Go.Eng.Sh.hbnd A w):
  ∃q Q i m,zMZ k t q (A.keys.getD w []) Q/\wL s k (cutA A w) q i/\wL s k (aU A w) Q m/\v=i++m:=by
 obtain⟨k1,k2⟩:=y;obtain⟨b1,b2⟩:=hb;have u:=a.size
 cases k with
 | zero=>
  obtain⟨rfl,rfl⟩:=a;obtain⟨c1,c2,c3⟩:=zII ⟨k1,k2⟩ ⟨b1,b2⟩;exact⟨_,_,[],[],c1,⟨c2,rfl⟩,⟨c3,rfl⟩,rfl⟩
 | succ k=>
  obtain⟨o,f,F,h⟩:=a;obtain⟨i,m,z,C,rfl⟩:=h.split (w+1);have hl:=g.2.2.len;have x:=h.len;simp only[o,zM,qE,f]at k2 b2;have sz: ∀j,j<=t.1.length->Nd.size (cutA A j)=wX (t.1.take j) (j+1):=fun j G=>by
   simp only[cutA,o,zM,qE,Nd.size,wX,f,qC,sumL_nil];rw[x,hl,Nat.min_eq_left (by omega)];omega
  have p:min (k+1+1) 2=2:=by omega
  refine⟨(t.1.take w,t.2.take (w+1)),(t.1.drop (w+1),t.2.drop (w+1)),i,m,⟨w,⟨k1, ?_, ?_, ?_⟩,rfl,by rw[f],rfl⟩, ?_, ?_,rfl⟩
  .simp only[WP,p];exact k2
  .rcases b1 with b1 | b1
   .exact .inl b1
   .rw[sz w (by omega),u]at b1;exact .inr b1
  .rcases b2 with b2 | b2
   .exact .inl (by simp only[WP,p];exact b2)
   .rw[sz (w+1) (by omega),u]at b2;exact .inr b2
  .simp only[wL,cutA,o,zM,qE,f,true_and];exact z
  .simp only[wL,aU,o,zM,qE,f,true_and];exact C
theorem UU {f:List Str}(o:Go.Eng.Sh.CutsN A L f): ∀ {t:Tr k} {S:List Ptr} {lo hi:Bd},wL s k A t S->WX k lo hi t-> ∃ts,Cuts k t ts f/\zDJ s k L ts S:=by
 induction o with
 | one hz=>
  intro t S lo hi w _;exact⟨[t], .one (by rw[<-w.size];exact hz),S,[],w,rfl,by simp⟩
 | @more A h ps f hz hk hb _ ih=>
  intro t S lo hi w m;have j:500<wM k t:=by rw[<-w.size];exact hz
  obtain⟨p,y,q,Q,c1,c2,c3,rfl⟩:=w.cut m.gen hk hb;obtain⟨_,u,_⟩:=zH5 m j c1;obtain⟨ts,v,x⟩:=ih c3 u;exact⟨p::ts, .more j c1 v,q,Q,c2,x,rfl⟩
theorem zDJ.kids {Q:Ptr->Option Nd.Node}{h:Nat} : ∀ {f:List Nd.Node} {ts:List (Tr h)} {S:List Ptr} (a:Nat),zDJ Q h f ts S->(∀i nd,f[i]? =some nd->Q (Go.Eng.Sh.pp (a+1+i))=some nd)->
  ∃j,vG Q (wL Q h) (Go.Eng.Sh.pps a f.length) ts j/\j.Perm (Go.Eng.Sh.pps a f.length++S)
 | [],[],S,a,h,_=>⟨[],rfl,by subst h;exact List.Perm.refl _⟩
 | nd::f,t::ts,_,a,⟨S1,S2,w,hp,e⟩,hq=>by
  subst e;obtain⟨j,r,m⟩:=zDJ.kids (a+1) hp fun i n hi=>by
   have:=hq (i+1) n (by simpa using hi);rwa[show a+1+(i+1)=a+1+1+i from by omega]at this
  refine⟨Go.Eng.Sh.pp (a+1)::(S1++j),⟨nd,S1,j,hq 0 nd rfl,w,r,rfl⟩, ?_⟩;simp only[zY,Go.Eng.Sh.pps,qF];refine List.Perm.cons _ ?_;have:(S1++j).Perm (S1++(Go.Eng.Sh.pps (a+1) f.length++S2)):=List.Perm.append_left _ m;refine this.trans ?_;rw[<-qH,<-qH];exact List.Perm.append_right _ List.perm_append_comm
 | [],_::_,_,_,h,_=>h.elim
 | _::_,[],_,_,h,_=>h.elim
theorem wL.join {f i:Tr k}(o:wL s k A f v)(p:wL s k G i P)(Q:Str):wL s k (dP A Q G) (ZP k f Q i) (v++P):=by
 cases k with
 | zero=>
  obtain⟨rfl,rfl⟩:=o;obtain⟨rfl,rfl⟩:=p;have key: ∀A G:Kvs,dP (leafOf A) Q (leafOf G)=leafOf (A++G):=fun A G=>by simp[dP,leafOf]
  exact⟨key f i,rfl⟩
 | succ k=>
  obtain⟨q,t,x,u⟩:=o;obtain⟨b1,b2,y,h⟩:=p;simp only[wL,dP,q,zM,qE,ZP,t,b2,true_and];exact vG.app h u
theorem zCX {j m:Tr k}{lo hi:Bd}{Q:Str}(f:wL s k A j v)(i:wL s k G m P)(o:Gen k lo (some Q) j)(q:Gen k (some Q) hi m)(z:mayK Q=true)(x:0<k->A.keys≠[])(nb:0<k->G.keys≠[])
  (C: ∀p∈v,Nd.kidOk p=true) (F: ∀p∈P,Nd.kidOk p=true):Go.Eng.Sh.joinOk A Q G=true:=by
 have h:=f.shaped o x C;have I:=i.shaped q nb F;simp only[Go.Eng.Sh.joinOk,h,I,Bool.true_and,Nd.partedN,z,f.leaf,i.leaf,beq_self_eq_true];have gl: ∀(l:List Str),l.length≠0->l.getD (l.length - 1) []∈l:=fun l hl=>by
  rw[qG,zK (by omega)];exact yJ _
 have y: ∀(l:List Str),l.length≠0->l.getD 0 []∈l:=fun l hl=>by
  rw[qG,zK (by omega)];exact yJ _
 cases k with
 | zero=>
  obtain⟨rfl,_⟩:=f;obtain⟨rfl,_⟩:=i;simp only[zF,j9,zQ];refine⟨?_, ?_⟩
  .by_cases e:(leafOf (j:Kvs)).keys.length=0
   .exact .inl e
   .refine .inr ?_;have:=gl _ e;obtain⟨p,hp,t⟩:=qM.1 this;rw[<-t];exact(o.2 p hp).2.1
  .by_cases e:(leafOf (m:Kvs)).keys.length=0
   .exact .inl (.inl e)
   .have:=y _ e;obtain⟨p,hp,t⟩:=qM.1 this;rw[<-t];rcases(q.2 p hp).1 with e | e
    .exact .inr ⟨trivial,e⟩
    .exact .inl (.inr e)
 | succ k=>
  simp only[zF,j9,zQ];refine⟨.inr ?_, .inl (.inr ?_)⟩
  .have hm:=gl A.keys (fun e=>x (by omega) (zR e));rw[f.2.1]at hm⊢;exact(o.1 _ hm).2.2
  .have hm:=y G.keys (fun e=>nb (by omega) (zR e));rw[i.2.1]at hm⊢;exact(q.1 _ hm).2.1
end Go.Bt
end
section
namespace Go.Eng
theorem zJB {room:Nat}{lo hi f:Option Nat}(h:YQ k w t e C room lo hi f=some i): ∀B,Blk i B->B=k:=by
 intro B a;unfold YQ at h;simp only[kI]at h;split at h
 .split at h
  .rw[zG]at h;split at h
   .simp only[zC]at h;subst h;exact zOG.1 a
   .cases h
  .cases h
 .rw[zG]at h;split at h
  .rw[zG]at h;split at h
   .simp only[zC]at h;subst h;exact zOG.1 a
   .rw[zG]at h;split at h
    .simp only[zC]at h;subst h;exact zOG.1 a
    .rw[zG]at h;split at h
     .simp only[zC]at h;subst h;exact zOG.1 a
     .simp only[zC]at h;subst h;obtain⟨_,_,_,a⟩:=a;cases a
  .cases h
theorem YV {lo hi f:Option AV}(h:vD k i lo hi f H=some q): ∀B,Blk q B->Blk i B:=by
 intro B a;unfold vD at h;split at h
 .split at h
  .rw[zG]at h;split at h
   .simp only[zC]at h;subst h;exact a
   .cases h
  .split at h
   .rw[zG]at h;split at h
    .rw[zJB h B a];exact⟨_,_,_,rfl⟩
    .cases h
   .cases h
  .split at h
   .rw[zG]at h;split at h
    .simp only[zC]at h;subst h;obtain⟨_,_,_,a⟩:=a;cases a
    .cases h
   .cases h
  .cases h
 .cases h
end Go.Eng
namespace Go.Eng.Sh
open Go.Nd (Ptr sumL)
variable {X:Nat->Prop}
theorem hi3 (h:wG 3 42 H q v.length (v.flatMap jX)){i:Nat}(hi:i<=v.length):
  ∃r,vD 3 q none (some (.int .i64 (i:Nat))) (some (.int .i64 (i:Nat))) H=some r/\bY H r (v.take i):=by
 obtain⟨r,f,w,_⟩:=VV h (by decide) hi .i64 .i64;rw[KH]at w;have a:(v.take i).length=i:=by rw[qC];omega
 exact⟨r,f,by rw[bY,a];exact w⟩
theorem lo3 (h:wG 3 42 H q v.length (v.flatMap jX)){i:Nat}(hi:i<=v.length)(m:0<v.length):
  ∃r,vD 3 q (some (.int .i64 (i:Nat))) none none H=some r/\bY H r (v.drop i):=by
 by_cases j:i<v.length
 .obtain⟨r,a,w,_⟩:=QG h (by decide) j .i64;rw[KI]at w;have f:(v.drop i).length=v.length - i:=by rw[qJ]
  exact⟨r,a,by rw[bY,f];exact w⟩
 .obtain rfl:i=v.length:=by omega
  obtain⟨r,a,w⟩:=YU h (by decide) m .i64;exact⟨r,a,by rw[List.drop_length];exact w⟩
theorem conP3{cc:Nat}{m A:List Ptr}(x:H.ok)(j:H.h.get k=some (.cells [i,q,I] 50 1 false))(y:bY H i P)(s:bY H q m)(t:bY H I A)(hb:P.length+m.length+A.length<=1000000000)(C:100<=n):
  ∃w H',f178 D n [.slice k 0 3 cc] H=some (w,H')/\Prs H H'/\Own 3 42 H' w (P++(m++A)).length ((P++(m++A)).flatMap jX)/\ ∀B,Blk w B->H.next<=B:=by
 obtain⟨w,H',e,p,o,f⟩:=zHk D n x (v:= .slice k 0 3 cc) (vs:=[i,q,I]) (rs:=[(P.length,P.flatMap jX),(m.length,m.flatMap jX),(A.length,A.flatMap jX)]) (Rw.lit x j) ⟨⟨y,uZ _⟩,⟨s,uZ _⟩,⟨t,uZ _⟩,trivial⟩ (by simp[gP];omega) (by simp) (by simp;omega)
  (fun B a=>by rw[zOG.1 a];exact x.lt j) (fun I u B a=>by
   simp only[zO,List.not_mem_nil,or_false]at u;rcases u with rfl | rfl | rfl
   .exact zOR y a
   .exact zOR s a
   .exact zOR t a)
 exact⟨w,H',e,p,by simpa[gP,zEo]using o,f⟩
theorem zLq(hn:200000000<=n){A7 i m:Nat}{f:PN}{a2 a3:Nat}{lk:List AV}
  (z:Ch X H B k w t h f q v a2 a3) (M:B.h.get e=some (.cells l 119 1 false)) (g7:B.h.get C=some (.cells lk 119 1 false)) (N:B.h.get A7=some (.cells [.bool false, .nS, .nS, .nS] 119 1 false))
  (f5:H.next<=e) (f7:H.next<=C) (f8:H.next<=A7) (f9:e≠A7) (c5:e≠w) (b0:A7≠w)
  (hv:xU X B q (.agg l) A) (a5:xU X B q (.agg lk) G) (c6:Nd.shaped ltS G=true) (hz:Nd.size G<=10000) (hs:small A) (g0:A.kids.length=A.keys.length+1) (c7:A.keys≠[]) (g1:i+m<A.kids.length)
  (c0: ∀o At,CutsN G o At->o.length<=1000/\At.length<=1000) (hb:a3<=800000000):
  ∃u H' o At vs,zAQ D n [.ptr w 0, .ptr e 0, .ptr C 0, .ptr A7 0, .int .i64 (i:Nat), .int .i64 (i+m+1:Nat)] B=some (.ret (.tuple [u, .int .i64 (0:Nat)]),H')/\CutsN G o At/\
   Ch X H H' k w t (h++WG a3 vs) (f++vC a3 o) q v a2 (a3+o.length)/\Stp (fun H0=>chg w t q H0\/H0=A7) B H'/\
   xU X H' q u ⟨false,A.keys.take i++(At++A.keys.drop (i+m)),[],A.kids.take i++(pps a3 o.length++A.kids.drop (i+m+1))⟩/\ ∀H0,vV u H0->B.next<=H0:=by
 obtain⟨ks,a6,V,b1,k1,k2,k3⟩:=id hv.1;simp only[AV.agg.injEq]at b1;subst b1;have c8:lk.length=4:=by obtain⟨_,_,_,s,_⟩:=a5.1;simp only[AV.agg.injEq]at s;rw[s];rfl
 have b9:0<A.keys.length:=by
  rcases Nat.eq_zero_or_pos A.keys.length with s | s
  .exact absurd (zR s) c7
  .exact s
 obtain⟨s1,s2,s3⟩:=hs;have f2:=Nd.sumL_ge A.keys;obtain⟨pv,sv,H1,vs,o,At,e1,I,a9,oP,c3,oS,bP,bS,c9⟩:=zB2 D n hn z.prs.ok a5.1 c6 hz;obtain⟨c1,c2⟩:=c0 o At a9;have h1:=z.step I;have G5 {J:AH} (p:Prs B J):=zOM p z.prs.ok M;have q1 {J:AH} (p:Prs B J):wG 1 9 J ks A.keys.length (A.keys.map S):=k1.mono p (fun _ _ x=>x);have q3 {J:AH} (p:Prs B J):wG 3 42 J V A.kids.length (A.kids.flatMap jX):=k3.mono p (fun _ _ x=>x);obtain⟨r1,d0,x1⟩:=hi1 (q1 I) (i:=i) (by omega);obtain⟨r2,d1,x2⟩:=lo1 (q1 I) (i:=i+m) (by omega) b9;obtain⟨H2,A2,b2,F,g2,m2,n2⟩:=box I.ok (.cells [r1,sv,r2] 117 1 false);have O:=I.trans F;obtain⟨r3,b3,x3⟩:=hi3 (q3 O) (i:=i) (by omega);obtain⟨r4,b4,x4⟩:=lo3 (q3 O) (i:=i+m+1) (by omega) (by omega);have d2:Strs H2 sv At:=(oS.mono F (fun _ _ x=>x)).row;obtain⟨W,H3,e3,Q,o3,Y⟩:=zOf D n (cc:=6) F.ok g2 (x1.prs F) d2 (x2.prs F) (by simp only[qC,qJ];omega) (by omega);have K:=O.trans Q;have h3:=z.step K;have N1:=I.next;have N2:=F.next;have N3:=Q.next
 obtain⟨kv,Z,e4,h4,gl,o4,f4⟩:=zBs D n hn h3 (oP.mono (F.trans Q) (fun _ _ x=>x)) (c3.frame fun g hl A hg=>hg.prs (F.trans Q)) (fun g hl H0 j=>by
  rcases c9 g hl H0 j with s | s
  .exact a5.2 H0 s
  .exact⟨fun a7=>by have:=zOR z.gg.row a7;omega,fun hx=>by have:=z.xo H0 hx;have:=z.prs.next;omega⟩) (by omega) (by omega)
 have a0:xU X H3 q (.agg [.bool A.leaf,ks,a6,V]) A:=hv.prs K;have d3:=h3.next a0 gl
 obtain⟨g3,vs',g4,ee,j1,j2,j3⟩:=id d3.1;simp only[AV.agg.injEq,y9,and_true,true_and]at ee;obtain⟨rfl,rfl,rfl⟩:=ee;have b6: ∀H0,Blk V H0-> ¬chg w t q H0:=fun H0 j L=>by
  have a8:vV (.agg [.bool A.leaf,ks,a6,V]) H0:=xB.2 (.inr (.inr j));rcases L with rfl | rfl | s
  .exact a0.1.nblk h3.gC (.inl ⟨_,_,_,_,rfl,fun _ _ s=>by cases s⟩) a8
  .exact a0.1.nblk h3.gF (.inr (.inl ⟨_,_,rfl⟩)) a8
  .exact(a0.2 H0 a8).1 s
 have y3:bY Z r3 (A.kids.take i):=Rw.stp (x3.prs Q) gl.1 (fun H0 j=>b6 H0 (YV b3 H0 j));have y4:bY Z r4 (A.kids.drop (i+m+1)):=Rw.stp (x4.prs Q) gl.1 (fun H0 j=>b6 H0 (YV b4 H0 j));obtain⟨H5,A9,b5,y,d4,m5,n5⟩:=box h4.prs.ok (.cells [r3,kv,r4] 50 1 false);have d5:bY H5 kv (pps a3 o.length):=by
  have:=(o4.mono y (fun _ _ x=>x)).row;rw[bY,dD];exact this
 obtain⟨w6,H6,e6,p6,o6,f6⟩:=conP3 D n (cc:=6) y.ok d4 (y3.prs y) d5 (y4.prs y) (by rw[dD];simp only[qC,qJ];omega) (by omega);have T:Prs Z H6:=y.trans p6;have h6:=h4.step T;have N4:=gl.1.next;have N6:=T.next;have N0:=z.prs.next
 have g6:A7<B.next:=z.prs.ok.lt N
 have g9:e<B.next:=z.prs.ok.lt M
 have n8: ¬chg w t q A7:=fun L=>by
  rcases L with s | s | s
  .exact b0 s
  .rw[s,z.gF]at N;cases N
  .rw[z.gg.get s]at N;simp at N
 have d6: ¬chg w t q e:=fun L=>by
  rcases L with s | s | s
  .exact c5 s
  .rw[s,z.gF]at M;cases M
  .rw[z.gg.get s]at M;simp at M
 have b7:H6.h.get A7=some (.cells [.bool false, .nS, .nS, .nS] 119 1 false):=by
  rw[T.keep _ (by omega) (fun x=>x),gl.1.keep _ (by omega) n8];exact zOM K z.prs.ok N
 have d7:Z.h.get e=some (.cells [.bool A.leaf,ks,a6,V] 119 1 false):=by rw[gl.1.keep _ (by omega) d6];exact G5 K
 have b8:Own 1 9 H6 W (A.keys.take i++(At++A.keys.drop (i+m))).length ((A.keys.take i++(At++A.keys.drop (i+m))).map S):=(o3.mono gl.1 (fun H0 j L=>by
  have:=Y H0 j;rcases L with s | s | s
  .have:=z.ltC;omega
  .have:=z.ltF;omega
  .have:=zOR z.gg.row s;omega)).mono T (fun _ _ x=>x)
 obtain⟨H7,e7,d8,s7,n7⟩:=kE h6.prs.ok b7 (l':=[.bool false,W, .nS,w6]) rfl (by simp only[jV,b8.row.isCell,o6.row.isCell];rfl);have d9:stN 4 (.ptr A7 0) (.agg [.bool false,W, .nS,w6]) H6=some (jU,H7):=e7;have e0: ∀H0,Blk q H0-> ¬H0=A7:=fun H0 j s=>n8 (.inr (.inr (s▸j)))
 have h7:Ch X H H7 k w t (h++WG a3 vs) (f++vC a3 o) q v a2 (a3+o.length):=h6.other s7 (fun s=>b0 s.symm) (fun s=>n8 (.inr (.inl s.symm))) e0 (fun e2 e5 H0 j s=>by
  subst s;obtain⟨h0,e8⟩:=h6.pf.mem e2 e5;exact e8.nblk b7 (.inl ⟨_,_,_,_,rfl,fun _ _ s=>by cases s⟩) j) (fun H0 j=>by omega)
 have e9:vD 1 ks (some (.int .i64 (i+m:Nat))) none none H1=some r2:=d1;have c4:((i+m+1:Nat):Int) - ((1:Nat):Int)=((i+m:Nat):Int):=by omega
 refine⟨.agg [.bool false,W, .nS,w6],H7,o,At,vs, ?_,a9,h7, ?_,⟨⟨W, .nS,w6,rfl, .inl (b8.mono s7 (fun H0 j s=>by have:=Y H0 j;omega)), .inl (zOP ..), .inl (o6.mono s7 (fun H0 j s=>by have:=f6 H0 j;have:=y.next;omega))⟩,fun H0 j=>⟨fun a7=> ?_,fun hx=> ?_⟩⟩,fun H0 j=> ?_⟩
 .have f1: ¬(((0:Nat):Int)≠((0:Nat):Int)):=by omega
  simp(config:= { maxSteps:=2000000}) (disch:=omega) only[zAQ,eZ,uG g7 c8,e1,jS,nth,f1,jR (G5 I),d0,c4,e9,row3 117 .nS x1.isCell oS.row.isCell x2.isCell,b2,jR (G5 O),b3,b4,e3,kY (jR (G5 K) 3) (kR k3.row),uC (q3 O) (q3 K) (by decide),kY rfl (kR x3),kY rfl (kR x4),e4,kY (jR d7 3) (kR k3.row),uC (q3 O) j3 (by decide),
   row3 50 .nS x3.isCell o4.row.isCell x4.isCell,b5,e6,zMt o3.row.isCell o6.row.isCell,d9,uG d8 rfl]
 .have a1:Stp (fun H0=>chg w t q H0\/H0=A7) B Z:=(K.mono (fun _ _ x=>x.elim)).trans (gl.1.mono (fun _ _ x=> .inl x));exact(a1.trans (T.mono (fun _ _ x=>x.elim))).trans (s7.mono (fun _ _ x=> .inr x))
 .have:=zOR z.gg.row a7;rcases xB.1 j with s | s | s
  .have:=Y H0 s;omega
  .exact(zOO.1 s).elim
  .have:=f6 H0 s;have:=y.next;omega
 .have:=z.xo H0 hx;have:=z.prs.next
  rcases xB.1 j with s | s | s
  .have:=Y H0 s;omega
  .exact(zOO.1 s).elim
  .have:=f6 H0 s;have:=y.next;omega
 .rcases xB.1 j with s | s | s
  .have:=Y H0 s;omega
  .exact(zOO.1 s).elim
  .have:=f6 H0 s;have:=y.next;omega
end Go.Eng.Sh
end



