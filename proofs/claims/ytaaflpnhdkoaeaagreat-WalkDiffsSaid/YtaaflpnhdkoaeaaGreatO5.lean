/- Part 5: no condition. -/
import Derived.Test.YtaaflpnhdkoaeaaGreatO4
set_option linter.all false
set_option maxHeartbeats 8000000
set_option maxRecDepth 20000
open Go.Nd (Ptr QD be cP cutA cutOk sumL)
variable (D:Go.Eng.Dyn)(n:Nat){H:List (Go.Eng.AV×Go.Eng.AV)}{h F P:Go.Eng.AH}{k w t s C Y:Nat}{i G:Go.Nd.Node}{A q I:Go.Eng.AV}{v J:List Go.Nd.Ptr}{l W:List Go.Eng.AV}{p:List (Nat×List Go.Eng.AV)}{e:Go.Nd.Ptr->Option Go.Nd.Node}{B:Go.Nd.Ptr}{L:Nat×List Go.Eng.AV}{M:List Go.Nd.Node}{N:Bool}{Q:Nat->Prop}{R:List (List Go.Eng.AV)}{U:Go.Eng.AObj}{V:UInt8}
namespace Go.Eng
def Rws (k:Nat)(H:AH):List AV->List (Nat×List AV)->Prop
 | [],[]=>True
 | v::vs,r::rs=>(Rw k H v r.1 r.2/\jP r.2=true)/\Rws k H vs rs
 | _,_=>False
theorem Rws.len {k:Nat}{H:AH} : ∀ {vs:List AV} {rs:List (Nat×List AV)},Rws k H vs rs->vs.length=rs.length
 | [],[],_=>rfl
 | _::vs,_::rs,h=>by simp only[zT,Rws.len h.2]
 | [],_::_,h=>h.elim
 | _::_,[],h=>h.elim
theorem Rws.at {k:Nat}{H:AH} : ∀ {vs:List AV} {rs:List (Nat×List AV)} {i:Nat} {x:AV},Rws k H vs rs->vs[i]? =some x-> ∃r,rs[i]? =some r/\Rw k H x r.1 r.2/\jP r.2=true
 | [],[],_,_,_,h=>by simp at h
 | _::vs,r::rs,0,x,h,hx=>by simp only[List.getElem?_cons_zero,zB]at hx;subst hx;exact⟨r,rfl,h.1⟩
 | _::vs,_::rs,i+1,x,h,hx=>by simp only[j7]at hx⊢;exact Rws.at h.2 hx
 | [],_::_,_,_,h,_=>h.elim
 | _::_,[],_,_,h,_=>h.elim
theorem Rws.prs {k:Nat}{H H':AH}(s:Prs H H'): ∀ {vs:List AV} {rs:List (Nat×List AV)},Rws k H vs rs->Rws k H' vs rs
 | [],[],_=>trivial
 | _::vs,_::rs,h=>⟨⟨h.1.1.prs s,h.1.2⟩,Rws.prs s h.2⟩
 | [],_::_,h=>h.elim
 | _::_,[],h=>h.elim
def fH (rs:List (Nat×List AV)):Nat:=(rs.map Prod.fst).sum
def zG8 (rs:List (Nat×List AV)):List AV:=rs.flatMap Prod.snd
theorem QJ (h:p[k]? =some L):fH (p.take (k+1))=fH (p.take k)+L.1:=by
 obtain⟨hi,rfl⟩:=qR.1 h;rw[qM hi];simp only[fH,List.map_append,List.sum_append,yJ,List.map_nil,List.sum_cons,List.sum_nil,Nat.add_zero]
theorem zCF (h:p[k]? =some L):zG8 (p.take (k+1))=zG8 (p.take k)++L.2:=by
 obtain⟨hi,rfl⟩:=qR.1 h;rw[qM hi];simp only[zG8,yV,qJ,List.flatMap_nil,yB]
theorem YK (rs:List (Nat×List AV))(i:Nat):fH (rs.take i)<=fH rs:=by
 have:rs=rs.take i++rs.drop i:=(y6 i rs).symm
 conv=>rhs;rw[this]
 simp only[fH,List.map_append,List.sum_append];omega
def Part (k e:Nat)(H:AH)(v:AV)(n:Nat)(l:List AV)(a:Nat):Prop:=
 (a=0/\v= .nS/\n=0/\l=[])\/ ∃A rest,v= .slice A 0 n 1/\A<H.next/\H.h.get A=some (.cells (l++rest) e k true)/\l.length=n*k/\rest.length=(a - n)*k/\n<=a
theorem Part.own (e:Part k w h A t l t):Own k w h A t l:=by
 rcases e with⟨rfl,rfl,_,rfl⟩ | ⟨H,rest,rfl,f,a,hl,hr,_⟩
 .exact zRw _ _ _
 .have:rest=[]:=zW (by rw[hr,Nat.sub_self,Nat.zero_mul]);subst this;rw[yB]at a;exact⟨hl, .inr ⟨H,rfl,f,a⟩⟩
theorem Part.app {bytes:Nat}{m:Nat}{new:List AV}(v:h.ok)(o:0<k)(e:Part k w h A t l s)(n:srcOf k q h=some (m,new))(hm:new.length=m*k)(u:jP new=true)(f:t+m<=s):
  ∃j H',apP w k bytes A q h=some (j,H')/\Part k w H' j (t+m) (l++new) s/\Stp (Blk A) h H'/\H'.next=h.next/\ ∀B,Blk j B->Blk A B:=by
 rcases e with⟨rfl,rfl,rfl,rfl⟩ | ⟨H,rest,rfl,y,J,hl,hr,S⟩
 .obtain rfl:m=0:=by omega
  have:new=[]:=zW (by simpa using hm);subst this;exact⟨.nS,h,by simp[apP,n,u,app1], .inl ⟨rfl,rfl,rfl,rfl⟩,zRo v,rfl,fun _ x=>x⟩
 .have p:(l++rest).length=s*k:=by rw[zV,hl,hr,<-j8];congr 1;omega
  have z:kQ (l++rest) true k 0 1 k=s:=by
   simp only[kQ,show((1 % 2).beq 0)=false from rfl,qH,yF,show Nat.beq 0 (1 / 2*k)=true from by simp,qP,zP,jY,p,jD];exact Nat.mul_div_cancel _ o
  have b1:Nat.ble (t+m) s=true:=by rw[qW];exact f
  have K:Nat.blt 0 k=true:=by rw[qE];exact o
  have O:m*k<=rest.length:=by rw[hr];exact yN _ (by omega)
  have C:setAt (l++rest) (0+t*k) new=some (l++new++rest.drop (m*k)):=by
   rw[xI (by rw[p,hm,yZ,<-j8];exact yN _ f),yZ,hm];congr 1;rw[List.take_append_of_le_length (by omega),zY (by omega),List.drop_append,<-hl,List.drop_of_length_le (by omega),qX];congr 2;omega
  refine⟨.slice H 0 (t+m) 1,h.put H (.cells (l++new++rest.drop (m*k)) w k true), ?_, .inr ⟨H,rest.drop (m*k),rfl,y,by rw[zRk,if_pos rfl],by rw[zV,hl,hm,j8],by rw[qL,hr,<-Nat.sub_mul];congr 1;omega,f⟩,(zRo v).put y _ (.inr (zRl.2 rfl)),rfl,fun B N=>zRl.2 (zRl.1 N)⟩;simp only[apP,n,u,zP,app1,J,zGg,z,b1,K,C,zCO,kT,kF]
theorem Part.stp {k e:Nat}{S:Nat->Prop}{H H':AH}{v:AV}{n a:Nat}{l:List AV}(h:Part k e H v n l a)(s:Stp S H H')(j: ∀A,Blk v A-> ¬S A):Part k e H' v n l a:=by
 rcases h with h | ⟨A,rest,rfl,f,m,hr⟩
 .exact .inl h
 .exact .inr ⟨A,rest,rfl,qG f s.next,by rw[s.keep A f (j A (zRl.2 rfl))];exact m,hr⟩
theorem zHf (z:AV): ∀m:Nat,(rep m [z]).length=m
 | 0=>rfl
 | m+1=>by simp[rep,zHf z m]
theorem zEd (a b c:AV): ∀m:Nat,(rep m [a,b,c]).length=m*3
 | 0=>rfl
 | m+1=>by simp only[rep,zV,zEd a b c m,zT,yG];omega
theorem zMo {k e bytes m:Nat}{z:List AV}(p:h.ok)(a:0<k)(f:(rep m z).length=m*k)(u:0<m)(hm:m<=1000000000)(hb:bytes<=1000):
  apZ e k bytes z .nS (.int .i64 m) h=some (.slice h.next 0 m 1,h.push (.cells (rep m z) e k true))/\
  vN k (.slice h.next 0 m 1) none (some (.int .i64 (0:Nat))) none (h.push (.cells (rep m z) e k true))=some (.slice h.next 0 0 1)/\
  Part k e (h.push (.cells (rep m z) e k true)) (.slice h.next 0 0 1) 0 [] m:=by
 have b1:Nat.ble (m*bytes) 281474976710656=true:=by
  rw[qW];exact qN (Nat.mul_le_mul hm hb) (by decide)
 have b2:Nat.blt m 4611686018427387904=true:=by rw[qE];omega
 have q:Nat.beq m 0=false:=by rw[qY];intro H;have:=Nat.eq_of_beq_eq_true H;omega
 have j:kQ (rep m z) true k 0 1 k=m:=by
  simp only[kQ,show((1 % 2).beq 0)=false from rfl,qH,yF,show Nat.beq 0 (1 / 2*k)=true from by simp,qP,zP,jY,f,jD];exact Nat.mul_div_cancel _ a
 have o:Nat.blt 0 k=true:=by rw[qE];exact a
 refine⟨?_, ?_, .inr ⟨h.next,rep m z,rfl,Nat.lt_succ_self _,zRg _ _,by simp,by simpa using f,by omega⟩⟩
 .show apZ e k bytes z .nS (.int .i64 (Int.ofNat m)) h=_;simp only[apZ,b1,b2,qP,zP,app1,show m.beq 0=false from q,qH,vU,aK hm hb,Z4,qX,ZN p,kF]
 .have t:=kL .i64 (z:=((0:Nat):Int)) (by omega);simp only[vN,kY,t,zRg,o,zP];simp[JC,j,kF,show Nat.ble 0 m=true from by rw[qW];omega,show Nat.ble 0 0=true from rfl,show Nat.beq 1 0=false from rfl]
end Go.Eng
namespace Go.Eng.Sh
theorem zL2 (D:Dyn)(n m:Nat)(hm:m<=1000000000)(a:h.ok):
  ∃v H',f180 D n [.nS, .int .i64 (m:Nat)] h=some (v,H')/\Prs h H'/\Part 1 9 H' v 0 [] m/\ ∀B,Blk v B->h.next<=B:=by
 have H:zOZ X 117 .nS=some (.int .i64 (0:Nat)):=rfl;have j:lnSl .nS=some (.int .i64 (0:Nat)):=rfl;have u:vN 1 .nS none (some (.int .i64 (0:Nat))) none h=some .nS:=rfl;have o: ¬(m:Int)< ((0:Nat):Int):=by omega
 by_cases hp:m=0
 .subst hp;refine⟨.nS,h, ?_,zRo a, .inl ⟨rfl,rfl,rfl,rfl⟩,fun B f=>(zRu.1 f).elim⟩;simp(disch:=omega) only[f180,zIA,zEQ,eZ,o,H,j,Int.sub_zero,y7,Int.sub_self]
 .obtain⟨x,y,p⟩:=zMo (k:=1) (e:=9) (bytes:=16) (m:=m) (z:=[.str 0 0]) a (by decide) (by rw[zHf];omega) (by omega) hm (by decide);have q:(m:Int) - (((0:Nat):Int) - ((0:Nat):Int))=(m:Int):=by omega
  have t:((0:Nat):Int)< (m:Int):=by omega
  refine⟨_,_, ?_,(zRo a).push _,p,fun B f=>by rw[zRl.1 f];exact zM _⟩;simp(disch:=omega) only[f180,zIA,zEQ,eZ,o,H,j,u,q,t,x,y]
theorem zL3 (D:Dyn)(n m:Nat)(hm:m<=1000000000)(a:h.ok):
  ∃v H',f214 D n [.nS, .int .i64 (m:Nat)] h=some (v,H')/\Prs h H'/\Part 3 42 H' v 0 [] m/\ ∀B,Blk v B->h.next<=B:=by
 have H:zOZ X 50 .nS=some (.int .i64 (0:Nat)):=rfl;have j:lnSl .nS=some (.int .i64 (0:Nat)):=rfl;have y:vN 3 .nS none (some (.int .i64 (0:Nat))) none h=some .nS:=rfl;have o: ¬(m:Int)< ((0:Nat):Int):=by omega
 by_cases hp:m=0
 .subst hp;refine⟨.nS,h, ?_,zRo a, .inl ⟨rfl,rfl,rfl,rfl⟩,fun B f=>(zRu.1 f).elim⟩;simp(disch:=omega) only[f214,zIy,zEP,eZ,o,H,j,Int.sub_zero,y7,Int.sub_self]
 .obtain⟨q,t,p⟩:=zMo (k:=3) (e:=42) (bytes:=24) (m:=m) (z:=[.int .i64 (.ofNat 0), .int .i64 (.ofNat 0), .int .u64 (.ofNat 0)]) a (by decide) (by rw[zEd]) (by omega) hm (by decide);have u:(m:Int) - (((0:Nat):Int) - ((0:Nat):Int))=(m:Int):=by omega
  have x:((0:Nat):Int)< (m:Int):=by omega
  refine⟨_,_, ?_,(zRo a).push _,p,fun B f=>by rw[zRl.1 f];exact zM _⟩;simp only[Int.ofNat_eq_natCast]at q t;simp(disch:=omega) only[f214,zIy,zEP,eZ,o,H,j,y,u,x,q,t]
theorem catS1(q:Rw 1 h A l.length l)(H:Rws 1 h l p)(hb:fH p<=1000000000)(hl:l.length<=1000000000)(a:Nat)(t:l.length<a):
  kJ a (XT D n) [A, .int .i64 (0:Nat),A, .int .i64 (l.length:Nat), .int .i64 (0:Nat)] h=some (.exit 0 [A, .int .i64 (fH p:Nat)],h):=by
 have f:=H.len;refine uX (fun i=>[A, .int .i64 (fH (p.take i):Nat),A, .int .i64 (l.length:Nat), .int .i64 (i:Nat)]) l.length ?_ ?_ a t
 .intro i hi;obtain⟨v,x,u,y,z⟩:=q.ld1 hi;obtain⟨r,r1,C,O⟩:=H.at z;have o:((i:Nat):Int)< (l.length:Int):=by omega
  have S:=QJ r1;have K:=YK p i;have N:=YK p (i+1);have j: ¬((fH (p.take i):Nat):Int)+((r.1:Nat):Int)< ((0:Nat):Int):=by omega
  have J:((fH (p.take (i+1)):Nat):Int)=((fH (p.take i):Nat):Int)+((r.1:Nat):Int):=by omega
  rw[J];simp(disch:=omega) only[XT,BE,eZ,o,u,y,C.lnSl,j,yH]
 .intro m;refine jW ?_;have:p.take l.length=p:=by rw[f];exact j9
  simp only[XT,eZ,y7,this]
theorem catS2(O:h.ok)(S:Rw 1 h A l.length l)(H:Rws 1 h l p)(hl:l.length<=1000000000)
   (T:Part 1 9 h q 0 [] (fH p)) (z: ∀B,Blk q B-> ¬Blk A B) (C: ∀B,Blk q B-> ∀x∈l,¬Blk x B) (j:Nat) (Y:l.length<j):
  ∃a H',kJ j (XS D n) [q,A, .int .i64 (l.length:Nat), .int .i64 (0:Nat)] h=some (.exit 2 [a],H')/\Stp (Blk q) h H'/\Part 1 9 H' a (fH p) (zG8 p) (fH p)/\ ∀B,Blk a B->Blk q B:=by
 have y:=H.len;obtain⟨m,o,H',k1,a,rfl,k3,k4,k5⟩:=uF (b:=XS D n) l.length (fun i o H'=> ∃a,o=[a,A, .int .i64 (l.length:Nat), .int .i64 (i:Nat)]/\Stp (Blk q) h H'/\Part 1 9 H' a (fH (p.take i)) (zG8 (p.take i)) (fH p)/\ ∀B,Blk a B->Blk q B) (fun i o H1 hi ⟨w1,hus,hs,hp,hB⟩=>by
  subst hus;obtain⟨vs,x,Z,p2,t⟩:=(S.stp hs (fun v f rs=>z v rs f)).ld1 hi;obtain⟨r,r1,u,r3⟩:=H.at t;have hx:x∈l:=List.mem_of_getElem? t;have J:=u.stp hs (fun v f rs=>C v rs x hx f);have K:((i:Nat):Int)< (l.length:Int):=by omega
  have a0:=YK p (i+1);have N:=QJ r1;obtain⟨w2,H2,e2,q2,s2,n2,b2⟩:=hp.app (bytes:=16) hs.ok (by decide) J.srcOf u.1 r3 (by omega);rw[<-N,<-zCF r1]at q2;refine⟨_,H2, ?_,w2,rfl,hs.trans (s2.mono fun v _ f=>hB v f),q2,fun B hb=>hB B (b2 B hb)⟩;simp(disch:=omega) only[XS,eZ,K,Z,p2,e2,yH]) j _ h ⟨q,rfl,zRo O,T,fun _ x=>x⟩ Y
 rw[y,j9]at k4;exact⟨a,H',k1.trans (jW (by simp only[XS,eZ,y7])),k3,k4,k5⟩
theorem zJm(u:h.ok){v:AV}{vs:List AV}{rs:List (Nat×List AV)}(m:Rw 1 h v vs.length vs)(H:Rws 1 h vs rs)(hb:fH rs<=1000000000)(hl:vs.length<=1000000000)(p:vs.length<n)
  (q: ∀B,Blk v B->B<h.next) (t: ∀x∈vs,∀B,Blk x B->B<h.next):
  ∃w H',f132 D n [v] h=some (w,H')/\Prs h H'/\Own 1 9 H' w (fH rs) (zG8 rs)/\ ∀B,Blk w B->h.next<=B:=by
 obtain⟨S,T,y,f,q1,j⟩:=zL2 D n (fH rs) hb u;obtain⟨z,C,J,K,q2,N⟩:=catS2 D n f.ok (m.prs f) (H.prs f) hl q1 (fun B a o=>by have:=j B a;have:=q B o;omega) (fun B a x O o=>by have:=j B a;have:=t x O B o;omega) n p;have l1:=catS1 D n m H hb hl n p;refine⟨z,C, ?_,f.fresh K j,q2.own,fun B a=>j B (N B a)⟩;simp only[f132,eZ,m.lnSl,l1,zMK,y,J,zII]
theorem catP1(q:Rw 1 h A l.length l)(H:Rws 3 h l p)(hb:fH p<=1000000000)(hl:l.length<=1000000000)(a:Nat)(t:l.length<a):
  kJ a (XR D n) [A, .int .i64 (0:Nat),A, .int .i64 (l.length:Nat), .int .i64 (0:Nat)] h=some (.exit 0 [A, .int .i64 (fH p:Nat)],h):=by
 have f:=H.len;refine uX (fun i=>[A, .int .i64 (fH (p.take i):Nat),A, .int .i64 (l.length:Nat), .int .i64 (i:Nat)]) l.length ?_ ?_ a t
 .intro i hi;obtain⟨v,x,u,y,z⟩:=q.ld1 hi;obtain⟨r,r1,C,O⟩:=H.at z;have o:((i:Nat):Int)< (l.length:Int):=by omega
  have S:=QJ r1;have K:=YK p i;have N:=YK p (i+1);have j: ¬((fH (p.take i):Nat):Int)+((r.1:Nat):Int)< ((0:Nat):Int):=by omega
  have J:((fH (p.take (i+1)):Nat):Int)=((fH (p.take i):Nat):Int)+((r.1:Nat):Int):=by omega
  rw[J];simp(disch:=omega) only[XR,BB,eZ,o,u,y,C.lnSl,j,yH]
 .intro m;refine jW ?_;have:p.take l.length=p:=by rw[f];exact j9
  simp only[XR,eZ,y7,this]
theorem catP2(O:h.ok)(S:Rw 1 h A l.length l)(H:Rws 3 h l p)(hl:l.length<=1000000000)
   (T:Part 3 42 h q 0 [] (fH p)) (z: ∀B,Blk q B-> ¬Blk A B) (C: ∀B,Blk q B-> ∀x∈l,¬Blk x B) (j:Nat) (Y:l.length<j):
  ∃a H',kJ j (XQ D n) [q,A, .int .i64 (l.length:Nat), .int .i64 (0:Nat)] h=some (.exit 2 [a],H')/\Stp (Blk q) h H'/\Part 3 42 H' a (fH p) (zG8 p) (fH p)/\ ∀B,Blk a B->Blk q B:=by
 have y:=H.len;obtain⟨m,o,H',k1,a,rfl,k3,k4,k5⟩:=uF (b:=XQ D n) l.length (fun i o H'=> ∃a,o=[a,A, .int .i64 (l.length:Nat), .int .i64 (i:Nat)]/\Stp (Blk q) h H'/\Part 3 42 H' a (fH (p.take i)) (zG8 (p.take i)) (fH p)/\ ∀B,Blk a B->Blk q B) (fun i o H1 hi ⟨w1,hus,hs,hp,hB⟩=>by
  subst hus;obtain⟨vs,x,Z,p2,t⟩:=(S.stp hs (fun v f rs=>z v rs f)).ld1 hi;obtain⟨r,r1,u,r3⟩:=H.at t;have hx:x∈l:=List.mem_of_getElem? t;have J:=u.stp hs (fun v f rs=>C v rs x hx f);have K:((i:Nat):Int)< (l.length:Int):=by omega
  have a0:=YK p (i+1);have N:=QJ r1;obtain⟨w2,H2,e2,q2,s2,n2,b2⟩:=hp.app (bytes:=24) hs.ok (by decide) J.srcOf u.1 r3 (by omega);rw[<-N,<-zCF r1]at q2;refine⟨_,H2, ?_,w2,rfl,hs.trans (s2.mono fun v _ f=>hB v f),q2,fun B hb=>hB B (b2 B hb)⟩;simp(disch:=omega) only[XQ,eZ,K,Z,p2,e2,yH]) j _ h ⟨q,rfl,zRo O,T,fun _ x=>x⟩ Y
 rw[y,j9]at k4;exact⟨a,H',k1.trans (jW (by simp only[XQ,eZ,y7])),k3,k4,k5⟩
theorem zJn(u:h.ok){v:AV}{vs:List AV}{rs:List (Nat×List AV)}(m:Rw 1 h v vs.length vs)(H:Rws 3 h vs rs)(hb:fH rs<=1000000000)(hl:vs.length<=1000000000)(p:vs.length<n)
  (q: ∀B,Blk v B->B<h.next) (t: ∀x∈vs,∀B,Blk x B->B<h.next):
  ∃w H',f178 D n [v] h=some (w,H')/\Prs h H'/\Own 3 42 H' w (fH rs) (zG8 rs)/\ ∀B,Blk w B->h.next<=B:=by
 obtain⟨S,T,y,f,q1,j⟩:=zL3 D n (fH rs) hb u;obtain⟨z,C,J,K,q2,N⟩:=catP2 D n f.ok (m.prs f) (H.prs f) hl q1 (fun B a o=>by have:=j B a;have:=q B o;omega) (fun B a x O o=>by have:=j B a;have:=t x O B o;omega) n p;have l1:=catP1 D n m H hb hl n p;refine⟨z,C, ?_,f.fresh K j,q2.own,fun B a=>j B (N B a)⟩;simp only[f178,eZ,m.lnSl,l1,zMI,y,J,zIB]
end Go.Eng.Sh
namespace Go.Eng
def hp:(∀(o:AObj) (f:Nat->AV) (H:AH) (K:AV->AH->Rs),H.ok->bA (some (o,f)) H K=K (f H.next) (H.push o))/\
  (∀(H:AH) (A o:Nat) (x:AObj),A<H.next->ld1 (.ptr A o) (H.push x)=ld1 (.ptr A o) H)/\
  (∀(H:AH) (A o n:Nat) (x:AObj),A<H.next->ldN n (.ptr A o) (H.push x)=ldN n (.ptr A o) H)/\
  (∀(l:List AV) (o n:Nat) (a:AV),o=0->n=l.length->(bC l o n).map AV.agg=some (.agg l))/\
  (∀(a b c d:AV),bC [a,b,c,d] 0 4=some [a,b,c,d])/\
  (∀(l:List AV),(some l).map AV.agg=some (.agg l))/\
  (∀(vs:List AV) (i:Nat),jN (.tuple vs) i=vs[i]?):=
 ⟨fun o f H K h=>kX h o f K,fun H A o x h=>zDp o x h,fun H A o n x h=>zO9 o n x h,fun l o n _ j m=>by subst j;subst m;rw[wC _ _ _ (.inr (by omega)),yL,j9];rfl,fun _ _ _ _=>rfl,fun _=>rfl,fun vs i=>by simp only[jN,QN]⟩
end Go.Eng
namespace Go.Nd
def partedN (lt:Str->Str->Bool)(a:Node)(sep:Str)(b:Node):Bool:=
 mayK sep&&(a.leaf==b.leaf)&&(decide (a.keys.length=0)||lt (a.keys.getD (a.keys.length - 1) []) sep)&&(decide (b.keys.length=0)||lt sep (b.keys.getD 0 [])||(a.leaf&&decide (sep=b.keys.getD 0 [])))
end Go.Nd
namespace Go.Eng.Sh
open Go.Nd (partedN)
theorem zHG(hk:h.ok){sep:Str}(H:dD h A i)(h':dD h q G)(hs:small i)(a2:small G):
  ∃H',f212 D n [A,S sep,q] h=some (.bool (partedN ltS i sep G),H')/\Prs h H':=by
 obtain⟨ks,vs,ps,rfl,h1,h2,h3⟩:=H;obtain⟨K,vs',T,rfl,k1,k2,k3⟩:=h';have a5:=Nd.sumL_ge i.keys;have a4:=Nd.sumL_ge G.keys;obtain⟨s1,s2,s3⟩:=hs;obtain⟨a6,a7,a8⟩:=a2;have P:Prs h ((h.push (.cells [.bool i.leaf,ks,vs,ps] 119 1 false)).push (.cells [.bool G.leaf,K,vs',T] 119 1 false)):=((zRo hk).push _).push _;have l1:=h1.lnSl;have u:=k1.lnSl;have q1:=h1.prs P;have q2:=k1.prs P;generalize f:(h.push (.cells [.bool i.leaf,ks,vs,ps] 119 1 false)).push (.cells [.bool G.leaf,K,vs',T] 119 1 false)=H2 at P q1 q2;have r1: ∀o,ld1 (.ptr h.next o) H2=[.bool i.leaf,ks,vs,ps][o]? :=fun o=>by rw[<-f,zDp _ _ (by rw[zRh];omega),KC]
 have j: ∀o,ld1 (.ptr (h.push (.cells [.bool i.leaf,ks,vs,ps] 119 1 false)).next o) H2=[.bool G.leaf,K,vs',T][o]? :=fun o=>by rw[<-f,KC]
 refine⟨H2, ?_,P⟩;have a3: ∀x y:Bool,(!(x==y))=false->x=y:=fun x y=>by cases x<;>cases y<;>simp
 cases hm:Nd.mayK sep with
 | false=>simp(disch:=first | assumption | omega | (simp only[zRh,zRi];omega) | (repeat(first | assumption | apply AH.ok.push))) only[f212,eZ,hp,f,wF,hm,partedN]
 | true=>
  cases hl:(i.leaf==G.leaf)with
  | false=>simp(disch:=first | assumption | omega | (simp only[zRh,zRi];omega) | (repeat(first | assumption | apply AH.ok.push))) only[f212,eZ,hp,f,wF,hm,partedN,r1,j,hl]
  | true=>
   have e:G.leaf=i.leaf:=by revert hl;cases i.leaf<;>cases G.leaf<;>simp
   rw[e]at j f;simp only[partedN,hm,hl,Bool.true_and];rw[e];clear hl e a3;generalize i.leaf=la at*
   have t:(la==la)=true:=by simp
   have a1:
     (∃q0,G.keys.length≠0->(∀κ (z:Int),z=((0:Nat):Int)->dV 1 K (.int κ z)=some q0)/\Eng.ld1 q0 H2=some (S (G.keys.getD 0 []))):=by
    by_cases h0:G.keys.length=0
    .exact⟨.nP,fun H=>absurd h0 H⟩
    .obtain⟨v,C,J⟩:=q2.at (i:=0) (by omega);refine⟨v,fun _=>⟨C, ?_⟩⟩;rw[vT (by omega)];exact J
   obtain⟨q0,a0⟩:=a1;by_cases ha:i.keys.length=0
   .have p: ¬((0:Nat):Int)< (i.keys.length:Int):=by omega
    simp only[ha,decide_true,Bool.true_or,Bool.true_and];by_cases hb:G.keys.length=0
    .have m:(G.keys.length:Int)=((0:Nat):Int):=by omega
     simp only[hb,decide_true,Bool.true_or];simp(disch:=first | assumption | omega | (simp only[zRh,zRi];omega) | (repeat(first | assumption | apply AH.ok.push))) only[f212,eZ,hp,f,wF,hm,r1,j,t,l1,u,p,m]
    .have m: ¬(G.keys.length:Int)=((0:Nat):Int):=by omega
     obtain⟨C,J⟩:=a0 hb;simp only[hb,decide_false,Bool.false_or]
     cases Y:ltS sep (G.keys.getD 0 [])<;>cases la<;>simp(disch:=first | assumption | omega | (simp only[zRh,zRi];omega) | (repeat(first | assumption | apply AH.ok.push))) only[f212,eZ,hp,f,wF,hm,r1,j,t,l1,u,p,m,C,J,Y]
   .have p:((0:Nat):Int)< (i.keys.length:Int):=by omega
    obtain⟨v,j1,N⟩:=q1.at (i:=i.keys.length - 1) (by omega);rw[<-vT (d:=[])]at N;have O:(i.keys.length:Int) - ((1:Nat):Int)=((i.keys.length - 1:Nat):Int):=by omega
    simp only[ha,decide_false,Bool.false_or]
    cases Z:ltS (i.keys.getD (i.keys.length - 1) []) sep with
    | false=>simp(disch:=first | assumption | omega | (simp only[zRh,zRi];omega) | (repeat(first | assumption | apply AH.ok.push))) only[f212,eZ,hp,f,wF,hm,r1,j,t,l1,u,p,O,j1,N,Z]
    | true=>
     by_cases hb:G.keys.length=0
     .have m:(G.keys.length:Int)=((0:Nat):Int):=by omega
      simp only[hb,decide_true,Bool.true_or];simp(disch:=first | assumption | omega | (simp only[zRh,zRi];omega) | (repeat(first | assumption | apply AH.ok.push))) only[f212,eZ,hp,f,wF,hm,r1,j,t,l1,u,p,m,O,j1,N,Z]
     .have m: ¬(G.keys.length:Int)=((0:Nat):Int):=by omega
      obtain⟨C,J⟩:=a0 hb;simp only[hb,decide_false,Bool.false_or]
      cases Y:ltS sep (G.keys.getD 0 [])<;>cases la<;>simp(disch:=first | assumption | omega | (simp only[zRh,zRi];omega) | (repeat(first | assumption | apply AH.ok.push))) only[f212,eZ,hp,f,wF,hm,r1,j,t,l1,u,p,m,O,j1,N,Z,C,J,Y]
end Go.Eng.Sh
namespace Go.Eng
def box (f:h.ok)(o:AObj): ∃H' A,(∀(a:Nat->AV) (K:AV->AH->Rs),bA (some (o,a)) h K=K (a A) H')/\Prs h H'/\H'.h.get A=some o/\h.next<=A/\A<H'.next:=
 ⟨h.push o,h.next,fun a K=>kX f o a K,(zRo f).push o,zRg _ _,zM _,by rw[zRh];omega⟩
theorem zPT (e:TypeId)(z:AV)(a:isCell A=true)(f:isCell q=true)(h:isCell z=true):dW e 1 2 [z] [(0,A),(1,q)]=some (.cells [A,q] e 1 false,fun x=> .slice x 0 2 4):=by
 simp only[dW,fD,rep,kO a,kO f];rfl
theorem row3 (e:TypeId)(z:AV)(a:isCell A=true)(f:isCell q=true)(h:isCell I=true):dW e 1 3 [z] [(0,A),(1,q),(2,I)]=some (.cells [A,q,I] e 1 false,fun x=> .slice x 0 3 6):=by
 simp only[dW,fD,rep,kO a,kO f,kO h];rfl
theorem zNE (e:TypeId)(z:AV)(a:isCell A=true):dW e 1 1 [z] [(0,A)]=some (.cells [A] e 1 false,fun x=> .slice x 0 1 2):=by
 simp only[dW,fD,rep,kO a];rfl
def Rw.lit {cc:Nat}(a:h.ok)(H:h.h.get k=some (.cells l w 1 false)):Rw 1 h (.slice k 0 l.length cc) l.length l:=
 ⟨by simp, .inr (.inr ⟨k,0,cc,l,w,1,false,rfl,H,a.lt H,by simp,by simp⟩)⟩
end Go.Eng
namespace Go.Eng.Sh
open Go.Nd (partedN)
theorem gJ {e:TypeId}(A:h.h.get k=some (.cells l e 1 false))(hl:l.length=4):ldN 4 (.ptr k 0) h=some (.agg l):=by
 rw[jR A,wC _ _ _ (.inr (by omega)),yL,zY (by omega)];rfl
def nd0:Nd.Node:=⟨false,[],[],[]⟩
def YF.zero (H0 H:AH):YF H0 H (.agg [.bool false, .nS, .nS, .nS]) nd0:=
 ⟨_,_,_,rfl,zRw ..,zRw ..,zRw ..,fun B a=>by rcases a with h | h | h<;>exact(zRu.1 h).elim,fun B a=>(zRu.1 a).elim,fun B a=>(zRu.1 a).elim⟩
def joinOk (a:Nd.Node)(sep:Str)(b:Nd.Node):Bool:=Nd.shaped ltS a&&Nd.shaped ltS b&&partedN ltS a sep b
theorem zLo{cc:Nat}{l m:List Str}(j:h.ok)(H:h.h.get k=some (.cells [A,q] 117 1 false))(t:Strs h A l)(u:Strs h q m)(hb:l.length+m.length<=1000000000)(J:100<=n):
  ∃w H',f132 D n [.slice k 0 2 cc] h=some (w,H')/\Prs h H'/\Own 1 9 H' w (l++m).length ((l++m).map S)/\ ∀B,Blk w B->h.next<=B:=by
 obtain⟨w,H',e,p,o,f⟩:=zJm D n j (v:= .slice k 0 2 cc) (vs:=[A,q]) (rs:=[(l.length,l.map S),(m.length,m.map S)]) (Rw.lit j H) ⟨⟨t,vR _⟩,⟨u,vR _⟩,trivial⟩ (by simpa[fH]using hb) (by simp) (by simp;omega)
  (fun B a=>by rw[zRl.1 a];exact j.lt H) (fun z C B a=>by
   simp only[zK,List.not_mem_nil,or_false]at C;rcases C with rfl | rfl
   .exact zRy t a
   .exact zRy u a)
 exact⟨w,H',e,p,by simpa[fH,zG8]using o,f⟩
theorem zQU{cc:Nat}{l m H:List Str}(j:h.ok)(x:h.h.get k=some (.cells [A,q,I] 117 1 false))(t:Strs h A l)(u:Strs h q m)(C:Strs h I H)(hb:l.length+m.length+H.length<=1000000000)(K:100<=n):
  ∃w H',f132 D n [.slice k 0 3 cc] h=some (w,H')/\Prs h H'/\Own 1 9 H' w (l++(m++H)).length ((l++(m++H)).map S)/\ ∀B,Blk w B->h.next<=B:=by
 obtain⟨w,H',e,p,o,f⟩:=zJm D n j (v:= .slice k 0 3 cc) (vs:=[A,q,I]) (rs:=[(l.length,l.map S),(m.length,m.map S),(H.length,H.map S)]) (Rw.lit j x) ⟨⟨t,vR _⟩,⟨u,vR _⟩,⟨C,vR _⟩,trivial⟩ (by simp[fH];omega) (by simp) (by simp;omega)
  (fun B a=>by rw[zRl.1 a];exact j.lt x) (fun I J B a=>by
   simp only[zK,List.not_mem_nil,or_false]at J;rcases J with rfl | rfl | rfl
   .exact zRy t a
   .exact zRy u a
   .exact zRy C a)
 exact⟨w,H',e,p,by simpa[fH,zG8]using o,f⟩
theorem conP2{cc:Nat}{m:List Ptr}(j:h.ok)(H:h.h.get k=some (.cells [A,q] 50 1 false))(t:gY h A J)(u:gY h q m)(hb:J.length+m.length<=1000000000)(x:100<=n):
  ∃w H',f178 D n [.slice k 0 2 cc] h=some (w,H')/\Prs h H'/\Own 3 42 H' w (J++m).length ((J++m).flatMap jS)/\ ∀B,Blk w B->h.next<=B:=by
 obtain⟨w,H',e,p,o,f⟩:=zJn D n j (v:= .slice k 0 2 cc) (vs:=[A,q]) (rs:=[(J.length,J.flatMap jS),(m.length,m.flatMap jS)]) (Rw.lit j H) ⟨⟨t,bF _⟩,⟨u,bF _⟩,trivial⟩ (by simpa[fH]using hb) (by simp) (by simp;omega)
  (fun B a=>by rw[zRl.1 a];exact j.lt H) (fun z C B a=>by
   simp only[zK,List.not_mem_nil,or_false]at C;rcases C with rfl | rfl
   .exact zRy t a
   .exact zRy u a)
 exact⟨w,H',e,p,by simpa[fH,zG8]using o,f⟩
theorem ZW:vJ [(0,1),(1,1),(2,1),(3,1)] [.bool false, .nS, .nS, .nS] []=some (.agg [.bool false, .nS, .nS, .nS]):=rfl
theorem zJv (x:Bool)(f:isCell A=true)(hb:isCell q=true):vJ [(0,1),(1,1),(2,1),(3,1)] [.bool false, .nS, .nS, .nS] [(0, .bool x),(1,A),(2,q)]=some (.agg [.bool x,A,q, .nS]):=by
 simp only[vJ,fD,zJY,kO f,kO hb];rfl
theorem zOR (f:isCell A=true)(hb:isCell q=true):vJ [(0,1),(1,1),(2,1),(3,1)] [.bool false, .nS, .nS, .nS] [(1,A),(3,q)]=some (.agg [.bool false,A, .nS,q]):=by
 simp only[vJ,fD,zJY,kO f,kO hb];rfl
theorem zI5(hn:200000000<=n)(hk:h.ok){sep:Str}(H:dD h A i)(h':dD h q G)(hs:small i)(c7:small G):
  ∃u H',f176 D n [A,S sep,q] h=some (.tuple [u, .int .i64 (if joinOk i sep G then 0 else 1:Nat)],H')/\Prs h H'/\YF h H' u (if joinOk i sep G then cP i sep G else nd0):=by
 have i0:=H;have c8:=h';obtain⟨ks,vs,ps,rfl,h1,h2,h3⟩:=H;obtain⟨la,b0⟩: ∃la,la=i.leaf:=⟨_,rfl⟩;rw[<-b0]at i0⊢;obtain⟨b4,vs',c9,rfl,k1,k2,k3⟩:=h';have e2:=Nd.sumL_ge i.keys;have e0:=Nd.sumL_ge G.keys;have e3:=Nd.sumL_ge i.vals;have e1:=Nd.sumL_ge G.vals;have s0:=hs;have d0:=c7;obtain⟨s1,s2,s3⟩:=hs;obtain⟨e7,e8,f1⟩:=c7;obtain⟨H1,A1,b1,p1,g1,m1,n1⟩:=box hk (.cells [.bool la,ks,vs,ps] 119 1 false);obtain⟨H2,A2,b2,p2,g2,m2,n2⟩:=box p1.ok (.cells [.bool G.leaf,b4,vs',c9] 119 1 false);obtain⟨H3,A3,b3,p3,g3,m3,n3⟩:=box p2.ok (.cells [.bool false, .nS, .nS, .nS] 119 1 false);have P3:Prs h H3:=(p1.trans p2).trans p3;have a1:=p3.get p2.ok (p2.get p1.ok g1);have d5:=p3.get p2.ok g2;obtain⟨H4,e4,p4⟩:=bN D n P3.ok (i0.prs P3) s0 hn;have P4:=P3.trans p4;have d6:=p4.get P3.ok a1;have a5:=p4.get P3.ok d5;have d1:=p4.get P3.ok g3;have a6: ∀ {y:AH} {l:List AV},Prs h y->y.h.get A3=some (.cells [.bool false, .nS, .nS, .nS] 119 1 false)->l.length=4->jP l=true-> ∃j,stN 4 (.ptr A3 0) (.agg l) y=some (jQ,j)/\Prs h j/\Stp (fun B=>B=A3) y j/\ldN 4 (.ptr A3 0) j=some (.agg l):=fun {y l} px hg hl hc=>by
  obtain⟨j,e,g,s,_⟩:=jV px.ok hg hl hc;have e':stN 4 (.ptr A3 0) (.agg l) y=some (jQ,j):=e;exact⟨j,e',px.fresh s (fun B f=>by omega),s,by rw[jR g,wC _ _ _ (.inr (by omega)),yL,zY (by omega)];rfl⟩
 cases c1:Nd.shaped ltS i with
 | false=>
  obtain⟨j,J,K,_,N⟩:=a6 (l:=[.bool false, .nS, .nS, .nS]) P4 d1 rfl rfl;refine⟨.agg [.bool false, .nS, .nS, .nS],j, ?_,K, ?_⟩
  rotate_left
  .simp only[joinOk,c1,Bool.false_and,zL,qD];exact YF.zero _ _
  .simp only[joinOk,c1,Bool.false_and,zL,qD];simp(disch:=omega) only[f176,eZ,b1,b2,b3,jR a1,ZH,qB,e4,c1,ZW,J,N]
 | true=>
 obtain⟨H5,e5,p5⟩:=bN D n P4.ok (c8.prs P4) d0 hn;have Y:=P4.trans p5;have a7:=p5.get P4.ok d6;have a8:=p5.get P4.ok a5;have d2:=p5.get P4.ok d1
 cases c2:Nd.shaped ltS G with
 | false=>
  obtain⟨j,J,K,_,N⟩:=a6 (l:=[.bool false, .nS, .nS, .nS]) Y d2 rfl rfl;refine⟨.agg [.bool false, .nS, .nS, .nS],j, ?_,K, ?_⟩
  rotate_left
  .simp only[joinOk,c2,Bool.false_and,Bool.and_false,zL,qD];exact YF.zero _ _
  .simp only[joinOk,c2,Bool.false_and,Bool.and_false,zL,qD];simp(disch:=omega) only[f176,eZ,b1,b2,b3,jR a1,jR a5,ZH,qB,e4,e5,c1,c2,ZW,J,N]
 | true=>
 obtain⟨H6,e6,p6⟩:=zHG D n Y.ok (sep:=sep) (i0.prs Y) (c8.prs Y) s0 d0;have P6:=Y.trans p6;have a2:=p6.get Y.ok a7;have Z:=p6.get Y.ok a8;have b5:=p6.get Y.ok d2
 cases c3:partedN ltS i sep G with
 | false=>
  obtain⟨j,J,K,_,N⟩:=a6 (l:=[.bool false, .nS, .nS, .nS]) P6 b5 rfl rfl;refine⟨.agg [.bool false, .nS, .nS, .nS],j, ?_,K, ?_⟩
  rotate_left
  .simp only[joinOk,c3,Bool.false_and,Bool.and_false,zL,qD];exact YF.zero _ _
  .simp only[joinOk,c3,Bool.false_and,Bool.and_false,zL,qD];simp(disch:=omega) only[f176,eZ,b1,b2,b3,jR a1,jR a5,jR a7,jR a8,ZH,qB,e4,e5,e6,c1,c2,c3,ZW,J,N]
 | true=>
 have hj:joinOk i sep G=true:=by simp only[joinOk,c1,c2,c3,qP]
 simp only[hj,if_true]
 cases la with
 | true=>
  obtain⟨H7,A7,b7,m,g7,m7,n7⟩:=box P6.ok (.cells [ks,b4] 117 1 false);have P7:=P6.trans m;obtain⟨H8,A8,b8,t,g8,m8,n8⟩:=box P7.ok (.cells [vs,vs'] 117 1 false);have z:=P7.trans t;obtain⟨w9,H9,e9,C,o9,f9⟩:=zLo D n (cc:=4) z.ok (t.get P7.ok g7) (h1.prs z) (k1.prs z) (by omega) (by omega);have w:=z.trans C;obtain⟨a0,d3,b6,O,T,a3⟩:=zLo D n (cc:=4) w.ok (C.get z.ok g8) (h2.prs w) (k2.prs w) (by omega) (by omega);have a4:=w.trans O;have up {y:AH} {o:AObj} {v:Nat} (g:H6.h.get v=some o) (p:Prs H6 y):=p.get P6.ok g;have c0:Prs H6 H9:=(m.trans t).trans C;obtain⟨j,J,K,sy,N⟩:=a6 (l:=[.bool true,w9,a0, .nS]) a4 (up b5 (c0.trans O)) rfl (by simp only[jP,o9.row.isCell,T.row.isCell];rfl);have d7:A3<H8.next:=by have:=p4.next;have:=p5.next;have:=p6.next;have:=m.next;have:=t.next;omega
  have n9:=C.next
  refine⟨.agg [.bool true,w9,a0, .nS],j, ?_,K, ?_⟩
  rotate_left
  .have:cP i sep G=⟨true,i.keys++G.keys,i.vals++G.vals,[]⟩:=by simp only[cP,<-b0,if_true]
   rw[this];refine⟨w9,a0, .nS,rfl,(o9.mono O (fun _ _ x=>x)).mono sy (fun B f e=>by have:=f9 B f;omega),T.mono sy (fun B f e=>by have:=a3 B f;omega),zRw ..,fun B f=> ?_,fun B f=>⟨fun H=> ?_,fun H=>(zRu.1 H).elim⟩,fun B f H=>(zRu.1 H).elim⟩
   .have:=z.next
    rcases f with H | H | H
    .have:=f9 B H;omega
    .have:=a3 B H;omega
    .exact(zRu.1 H).elim
   .have:=a3 B H;have:=zRy o9.row f;omega
  .simp(disch:=omega) only[f176,eZ,b1,b2,b3,jR a1,jR a5,jR a7,jR a8,ZH,qB,e4,e5,e6,c1,c2,c3,jM a2,jM Z,jM (up a2 m),jM (up Z m),zPT 117 .nS h1.isCell k1.isCell rfl,zPT 117 .nS h2.isCell k2.isCell rfl,b7,b8,e9,
    kW (jM (up a2 c0) 2) (kK h2),kW (jM (up Z c0) 2) (kK k2),b6,zJv _ o9.row.isCell T.row.isCell,J,N]
 | false=>
  obtain⟨H7,A7,b7,m,g7,m7,n7⟩:=box P6.ok (.cells [S sep] 9 1 false);have P7:=P6.trans m;obtain⟨H8,A8,b8,t,g8,m8,n8⟩:=box P7.ok (.cells [ks, .slice A7 0 1 2,b4] 117 1 false);have z:=P7.trans t;obtain⟨H9,A9,b9,C,g9,m9,n9⟩:=box z.ok (.cells [ps,c9] 50 1 false);have w:=z.trans C;have d4:Strs H9 (.slice A7 0 1 2) [sep]:=Rw.lit (cc:=2) w.ok (zRt (t.trans C) P7.ok g7);obtain⟨a0,d3,b6,O,T,a3⟩:=zQU D n (cc:=6) w.ok (C.get z.ok g8) (h1.prs w) d4 (k1.prs w) (by simp only[zT,yG];omega) (by omega);have a4:=w.trans O;obtain⟨c4,f2,d8,c5,c6,f11⟩:=conP2 D n (cc:=4) a4.ok (O.get w.ok g9) (h3.prs a4) (k3.prs a4) (by omega) (by omega);have d9:=a4.trans c5;have up {y:AH} {o:AObj} {v:Nat} (g:H6.h.get v=some o) (p:Prs H6 y):=p.get P6.ok g;have a9:Prs H6 d3:=((m.trans t).trans C).trans O;obtain⟨j,J,K,sy,N⟩:=a6 (l:=[.bool false,a0, .nS,c4]) d9 (up b5 (a9.trans c5)) rfl (by simp only[jP,T.row.isCell,c6.row.isCell];rfl);have d7:A3<H9.next:=by have:=p4.next;have:=p5.next;have:=p6.next;have:=m.next;have:=t.next;have:=C.next;omega
  have f3:=O.next
  refine⟨.agg [.bool false,a0, .nS,c4],j, ?_,K, ?_⟩
  rotate_left
  .have:cP i sep G=⟨false,i.keys++([sep]++G.keys),[],i.kids++G.kids⟩:=by simp only[cP,<-b0,zL,qD]
   rw[this];refine⟨a0, .nS,c4,rfl,(T.mono c5 (fun _ _ x=>x)).mono sy (fun B f e=>by have:=a3 B f;omega),zRw ..,c6.mono sy (fun B f e=>by have:=f11 B f;omega),fun B f=> ?_,fun B f=>⟨fun H=>(zRu.1 H).elim,fun H=> ?_⟩,fun B f=>(zRu.1 f).elim⟩
   .have:=w.next
    rcases f with H | H | H
    .have:=a3 B H;omega
    .exact(zRu.1 H).elim
    .have:=f11 B H;omega
   .have:=f11 B H;have:=zRy T.row f;omega
  .simp(disch:=omega) only[f176,eZ,b1,b2,b3,jR a1,jR a5,jR a7,jR a8,ZH,qB,e4,e5,e6,c1,c2,c3,jM a2,jM Z,jM (up Z m),jM (up a2 (m.trans t)),jM (up Z (m.trans t)),zNE 9 (.str 0 0) (JY sep),b7,
    row3 117 .nS h1.isCell (show isCell (.slice A7 0 1 2)=true from rfl) k1.isCell,zPT 50 .nS h3.isCell k3.isCell rfl,b8,b9,b6,
    kW (jM (up a2 a9) 3) (kK h3),kW (jM (up Z a9) 3) (kK k3),d8,zOR T.row.isCell c6.row.isCell,J,N]
end Go.Eng.Sh
namespace Go.Nd
end Go.Nd
namespace Go.Eng.Sh
theorem jZ.cells (H:jZ h A i): ∃l,A= .agg l/\l.length=4/\jP l=true:=by
 obtain⟨ks,vs,ps,rfl,a,f,j⟩:=H;exact⟨_,rfl,rfl,YE _ _ _ _ a.row.isCell f.row.isCell j.row.isCell⟩
def jZ.zero (H:AH):jZ H (.agg [.bool false, .nS, .nS, .nS]) nd0:=
 ⟨_,_,_,rfl, .inl (zRw ..), .inl (zRw ..), .inl (zRw ..)⟩
theorem vW.zero (N:Nat)(H:AH):vW N H (.agg [.bool false, .nS, .nS, .nS]) nd0:=
 ⟨jZ.zero H,fun B a=>by rcases wO.1 a with h | h | h<;>exact(zRu.1 h).elim⟩
theorem cutNo(O:200000000<=n)(T:h.ok)(H:dD h A i)(Y:small i)(j: ¬(Nd.shaped ltS i=true/\gP i)):
  ∃H',f213 D n [A] h=some (.tuple [.agg [.bool false, .nS, .nS, .nS],S [], .agg [.bool false, .nS, .nS, .nS], .int .i64 (1:Nat)],H')/\Prs h H':=by
 have C:=H;obtain⟨ks,vs,ps,rfl,Z,h2,h3⟩:=H;obtain⟨la,m⟩: ∃la,la=i.leaf:=⟨_,rfl⟩;rw[<-m]at C⊢;obtain⟨H1,H2,H3,H4,A1,A2,A4,b1,b2,t,u,x,a⟩:=zDH D n O T m.symm C Y;have o1:=a.o1;have o2:=a.o2;have o4:=a.o4;have l4:=a.lt;obtain⟨J,e5,i5,s5⟩:=a.all2 (l':=[.bool false, .nS, .nS, .nS]) rfl rfl;obtain⟨K,e6,f,s6⟩:=i5.all4 (l':=[.bool false, .nS, .nS, .nS]) rfl rfl;have o:stN 4 (.ptr A2 0) (.agg [.bool false, .nS, .nS, .nS]) H4=some (jQ,J):=e5;have p:stN 4 (.ptr A4 0) (.agg [.bool false, .nS, .nS, .nS]) J=some (jQ,K):=e6;have z:=Z.lnSl;refine⟨K, ?_,f.prs⟩;have y:(AV.str 0 0)=S []:=rfl
 cases c1:Nd.shaped ltS i with
 | false=>
  simp(maxSteps:=999999)(disch:=omega) only[f213,eZ,b1,b2,t,jR x.a1,jR a.a1,ZH,qB,u,c1,ZW,o,p,jR f.a2,jR f.a4,y]
 | true=>
  have j: ¬gP i:=fun hh=>j ⟨c1,hh⟩
  by_cases t2:i.keys.length<2
  .have q:(i.keys.length:Int)< ((2:Nat):Int):=by omega
   simp(maxSteps:=999999)(disch:=omega) only[f213,eZ,b1,b2,t,jR x.a1,jR a.a1,ZH,qB,u,c1,jM a.a1,z,q,ZW,o,p,jR f.a2,jR f.a4,y]
  .have q: ¬(i.keys.length:Int)< ((2:Nat):Int):=by omega
   have hf:la=false:=by
    cases la with
    | false=>rfl
    | true=>exact absurd ⟨by omega, .inl m.symm⟩ j
   have t3:i.keys.length<3:=by
    rcases Nat.lt_or_ge i.keys.length 3 with H | H
    .exact H
    .exact absurd ⟨by omega, .inr H⟩ j
   have N:(i.keys.length:Int)< ((3:Nat):Int):=by omega
   subst hf;simp(maxSteps:=999999)(disch:=omega) only[f213,eZ,b1,b2,t,jR x.a1,jR a.a1,ZH,qB,u,c1,jM a.a1,z,q,N,ZW,o,p,jR f.a2,jR f.a4,y]
theorem zQR(m:200000000<=n)(o:h.ok)(H:jZ h A i)(q:small i):
  ∃f sep j e H',f213 D n [A] h=some (.tuple [f,S sep,j, .int .i64 ((e:Nat):Int)],H')/\Prs h H'/\
   ((e=0/\ ∃k,Nd.shaped ltS i=true/\cutOk i k/\hbnd i k/\sep=i.keys.getD k []/\vW h.next H' f (cutA i k)/\vW h.next H' j (QD i k))\/
    (e=1/\sep=[]/\ ¬(Nd.shaped ltS i=true/\gP i)/\f= .agg [.bool false, .nS, .nS, .nS]/\j= .agg [.bool false, .nS, .nS, .nS])):=by
 by_cases a:Nd.shaped ltS i=true/\gP i
 .cases hl:i.leaf with
  | true=>
   obtain⟨k,f,j,H',e,p,t,u,ok,x⟩:=zOK D n m o H q a.1 a.2 hl;exact⟨f,_,j,0,H',e,p, .inl ⟨rfl,k,a.1,ok,x,rfl,t,u⟩⟩
  | false=>
   obtain⟨k,f,j,H',e,p,t,u,ok,x⟩:=zLl D n m o H q a.1 a.2 hl;exact⟨f,_,j,0,H',e,p, .inl ⟨rfl,k,a.1,ok,x,rfl,t,u⟩⟩
 .obtain⟨H',e,p⟩:=cutNo D n m o H.node q a;exact⟨_,[],_,1,H',e,p, .inr ⟨rfl,rfl,a,rfl,rfl⟩⟩
end Go.Eng.Sh
namespace Go.Nd
open Go.Eng (ltS kB kN xK wX uH)
abbrev Kvs:=List (Str×Str)
def lookP (k:Str):Kvs->Option Str
 | []=>none
 | (a,b)::l=>if a=k then some b else lookP k l
def putP (k v:Str):Kvs->Kvs
 | []=>[(k,v)]
 | (a,b)::l=>if a=k then(k,v)::l else if ltS a k then(a,b)::putP k v l else(k,v)::(a,b)::l
def delP (k:Str):Kvs->Kvs
 | []=>[]
 | (a,b)::l=>if a=k then l else(a,b)::delP k l
def Srt:Kvs->Prop
 | []=>True
 | (a,_)::l=>(∀p∈l,ltS a p.1=true)/\Srt l
theorem rising_cons {a:Str}{l:List Str} :rising ltS (a::l)=true↔(∀x∈l,ltS a x=true)/\rising ltS l=true:=by
 induction l generalizing a with
 | nil=>simp[rising]
 | cons b l ih=>
  rw[rising,zE];constructor
  .rintro⟨h1,h2⟩
   refine⟨fun x f=> ?_,h2⟩;rcases zK.1 f with rfl | f
   .exact h1
   .exact kN h1 ((ih.1 h2).1 x f)
  .rintro⟨h1,h2⟩
   exact⟨h1 b (zJ ..),h2⟩
theorem UB: ∀l:Kvs,Srt l↔rising ltS (l.map Prod.fst)=true
 | []=>by simp[Srt,rising]
 | (a,b)::l=>by
  rw[yJ,rising_cons,Srt,UB l];simp only[qZ,forall_exists_index,and_imp];constructor
  .rintro⟨h1,h2⟩;exact⟨fun x p hp e=>e▸h1 p hp,h2⟩
  .rintro⟨h1,h2⟩;exact⟨fun p hp=>h1 _ p hp rfl,h2⟩
theorem look_none {k:Str} : ∀ {l:Kvs},(∀p∈l,p.1≠k)->lookP k l=none
 | [],_=>rfl
 | (a,b)::l,h=>by
  rw[lookP,if_neg (h (a,b) (zJ ..))];exact look_none fun p hp=>h p (zC _ hp)
theorem QQ (k v x:Str): ∀l:Kvs,lookP x (putP k v l)=if x=k then some v else lookP x l
 | []=>by
  simp only[putP,lookP];by_cases h:x=k
  .rw[if_pos h.symm,if_pos h]
  .rw[if_neg (fun e=>h e.symm),if_neg h]
 | (a,b)::l=>by
  have j:=QQ k v x l;simp only[putP];split
  .rename_i e;subst e;simp only[lookP];by_cases h:x=a
   .rw[if_pos h.symm,if_pos h]
   .rw[if_neg (fun e=>h e.symm),if_neg h,if_neg (fun e=>h e.symm)]
  .rename_i f;split
   .simp only[lookP,j];by_cases h:x=k
    .subst h;rw[if_neg f,if_pos rfl,if_pos rfl]
    .rw[if_neg h,if_neg h]
   .simp only[lookP];by_cases h:x=k
    .rw[if_pos h.symm,if_pos h]
    .rw[if_neg (fun e=>h e.symm),if_neg h]
theorem mem_put {k v:Str}{p:Str×Str} : ∀ {l:Kvs},p∈putP k v l->p=(k,v)\/p∈l
 | [],h=>by simpa[putP]using h
 | (a,b)::l,h=>by
  simp only[putP]at h;split at h
  .rcases zK.1 h with h | h
   .exact .inl h
   .exact .inr (zC _ h)
  .split at h
   .rcases zK.1 h with h | h
    .exact .inr (h▸zJ ..)
    .rcases mem_put h with h | h
     .exact .inl h
     .exact .inr (zC _ h)
   .rcases zK.1 h with h | h
    .exact .inl h
    .exact .inr h
theorem srt_put (k v:Str): ∀ {l:Kvs},Srt l->Srt (putP k v l)
 | [],_=>⟨by simp,trivial⟩
 | (a,b)::l,h=>by
  simp only[putP];split
  .rename_i e;subst e;exact h
  .rename_i m;split
   .rename_i f;refine⟨fun p hp=> ?_,srt_put k v h.2⟩;rcases mem_put hp with rfl | hp
    .exact f
    .exact h.1 p hp
   .rename_i f;have j:ltS k a=true:=by
     cases o:ltS k a with
     | true=>rfl
     | false=>exact absurd (xK (by simpa using f) o) m
    refine⟨fun p hp=> ?_,h⟩;rcases zK.1 hp with rfl | hp
    .exact j
    .exact kN j (h.1 p hp)
theorem mem_del {k:Str}{p:Str×Str} : ∀ {l:Kvs},p∈delP k l->p∈l
 | [],h=>h
 | (a,b)::l,h=>by
  simp only[delP]at h;split at h
  .exact zC _ h
  .rcases zK.1 h with h | h
   .exact h▸zJ ..
   .exact zC _ (mem_del h)
theorem srt_del (k:Str): ∀ {l:Kvs},Srt l->Srt (delP k l)
 | [],_=>trivial
 | (a,b)::l,h=>by
  simp only[delP];split
  .exact h.2
  .exact⟨fun p hp=>h.1 p (mem_del hp),srt_del k h.2⟩
theorem KA (k x:Str): ∀ {l:Kvs},Srt l->lookP x (delP k l)=if x=k then none else lookP x l
 | [],_=>by simp[delP,lookP]
 | (a,b)::l,h=>by
  have m:=KA k x h.2;simp only[delP];split
  .rename_i e;subst e;by_cases f:x=a
   .rw[if_pos f,look_none];intro p hp e;subst f;exact uH (h.1 p hp) e.symm
   .rw[if_neg f,lookP,if_neg (fun e=>f e.symm)]
  .rename_i j;simp only[lookP,m];by_cases f:x=k
   .subst f;rw[if_neg j,if_pos rfl,if_pos rfl]
   .rw[if_neg f,if_neg f]
def whereN (n:Node)(key:Str):Nat:=(n.keys.filter fun k=>ltS k key||(!n.leaf&&decide (k=key))).length
def whereN_le (n:Node)(key:Str):whereN n key<=n.keys.length:=List.length_filter_le _ _
def leafOf (l:Kvs):Node:=⟨true,l.map Prod.fst,l.map Prod.snd,[]⟩
theorem YH {a b key:Str}{l:Kvs}(h:Srt ((a,b)::l)):whereN (leafOf ((a,b)::l)) key=if ltS a key then whereN (leafOf l) key+1 else 0:=by
 simp only[whereN,leafOf,yJ,Bool.not_true,Bool.false_and,Bool.or_false]
 cases hl:ltS a key with
 | true=>simp[hl]
 | false=>
  rw[List.filter_cons,hl];simp only[zL,qD];rw[List.length_eq_zero_iff,List.filter_eq_nil_iff];intro x j f;obtain⟨p,hp,rfl⟩:=qZ.1 j;have:=kN (h.1 p hp) f;rw[hl]at this;cases this
def hereN (n:Node)(key:Str):Bool:=decide (whereN n key<n.keys.length)&&decide (n.keys.getD (whereN n key) []=key)
theorem here_look (key:Str): ∀ {l:Kvs},Srt l->hereN (leafOf l) key=(lookP key l).isSome
 | [],_=>by simp[hereN,leafOf,lookP]
 | (a,b)::l,h=>by
  have f:=here_look key h.2;have m:(leafOf ((a,b)::l)).keys=a::(leafOf l).keys:=rfl;simp only[hereN,YH h,lookP,m]at f⊢
  cases hl:ltS a key with
  | true=>
   have j:a≠key:=uH hl;simp only[if_true,if_neg j,zT,Nat.add_lt_add_iff_right,List.getD_cons_succ];exact f
  | false=>
   simp only[zL,qD,zT,List.getD_cons_zero,Nat.zero_lt_succ,decide_true,Bool.true_and];by_cases e:a=key
   .simp[e]
   .rw[if_neg e,look_none]
    .simp[e]
    .intro p hp o;have:=h.1 p hp;rw[o,hl]at this;cases this
def zKC (n:Node)(key value:Str):Node:=
 if hereN n key then⟨true,n.keys,n.vals.set (whereN n key) value,[]⟩
 else⟨true,n.keys.take (whereN n key)++[key]++n.keys.drop (whereN n key),n.vals.take (whereN n key)++[value]++n.vals.drop (whereN n key),[]⟩
def zPq (n:Node)(key:Str):Node:=⟨true,n.keys.take (whereN n key)++n.keys.drop (whereN n key+1),n.vals.take (whereN n key)++n.vals.drop (whereN n key+1),[]⟩
theorem put_leaf (key value:Str): ∀ {l:Kvs},Srt l->zKC (leafOf l) key value=leafOf (putP key value l)
 | [],_=>by simp[zKC,hereN,leafOf,putP,whereN]
 | (a,b)::l,h=>by
  have f:=put_leaf key value h.2;have m:=here_look key h;have j:=here_look key h.2;simp only[zKC,m,j,YH h,lookP,putP]at f⊢;by_cases e:a=key
  .subst e;simp[kB,leafOf]
  .rw[if_neg e,if_neg e]
   cases hl:ltS a key with
   | true=>
    simp only[if_true];have g: ∀(q:Kvs),leafOf ((a,b)::q)=⟨true,a::(leafOf q).keys,b::(leafOf q).vals,[]⟩:=fun q=>rfl
    rw[g (putP key value l),<-f,g l];split
    .simp
    .simp
   | false=>
    have:lookP key l=none:=look_none fun p hp o=>by have:=h.1 p hp;rw[o,hl]at this;cases this
    rw[this];simp[leafOf]
theorem del_leaf (key:Str): ∀ {l:Kvs},Srt l->hereN (leafOf l) key=true->zPq (leafOf l) key=leafOf (delP key l)
 | [],_,h=>by simp[hereN,leafOf]at h
 | (a,b)::l,h,hr=>by
  have j:=here_look key h;have f:=here_look key h.2;rw[j]at hr;simp only[zPq,YH h,delP];by_cases e:a=key
  .subst e;simp[kB,leafOf]
  .simp only[lookP,if_neg e]at hr;rw[if_neg e];have hl:ltS a key=true:=by
    cases hl:ltS a key with
    | true=>rfl
    | false=>
     have:lookP key l=none:=look_none fun p hp m=>by have:=h.1 p hp;rw[m,hl]at this;cases this
     rw[this]at hr;cases hr
   have o:=del_leaf key h.2 (f.trans hr);simp only[hl,if_true];have g: ∀(q:Kvs),leafOf ((a,b)::q)=⟨true,a::(leafOf q).keys,b::(leafOf q).vals,[]⟩:=fun q=>rfl
   rw[g (delP key l),<-o,g l];simp[zPq]
def getN (n:Node)(key:Str):Option Str:=if n.leaf then lookP key (n.keys.zip n.vals)else none
theorem get_leaf (key:Str)(l:Kvs):getN (leafOf l) key=lookP key l:=by
 simp only[getN,leafOf,if_true];congr 1
 induction l with
 | nil=>rfl
 | cons p l ih=>simp[ih]
theorem leaf_shaped {l:Kvs}(h:Srt l)(a: ∀p∈l,mayK p.1=true/\p.2.length<=200):shaped ltS (leafOf l)=true:=by
 simp only[shaped,leafOf,if_true,zE,zR,yE,qZ,forall_exists_index,and_imp,jE,true_and];exact⟨⟨fun x p hp e=>e▸(a p hp).1,(UB l).1 h⟩,fun x p hp e=>e▸(a p hp).2⟩
end Go.Nd
namespace Go.Eng.Sh
open Go.Nd (whereN getN lookP)
theorem zDw {f:Str->Bool}(l:List Str)(h:k<l.length):((l.take (k+1)).filter f).length=((l.take k).filter f).length+if f (l.getD k [])then 1 else 0:=by
 rw[qM h,jH,zV,vT h];congr 1
 cases a:f l[k]<;>simp[a]
theorem QF(Y:200000000<=n)(K:h.ok){v:AV}{nd:Nd.Node}{key:Str}(H:dD h v nd)(N:small nd):
  ∃H',f79 D n [v,S key] h=some (.int .i64 (whereN nd key:Nat),H')/\Prs h H':=by
 obtain⟨ks,vs,ps,rfl,y,Z,h3⟩:=H;obtain⟨la,u⟩: ∃la,la=nd.leaf:=⟨_,rfl⟩;rw[<-u];have T:=Nd.sumL_ge nd.keys;obtain⟨s1,s2,s3⟩:=N;obtain⟨t,A1,b1,z,j,m1,n1⟩:=box K (.cells [.bool la,ks,vs,ps] 119 1 false);have r1:=y.prs z;have O:kJ n (zCc D n) [S key, .ptr A1 0, .int .i64 (0:Nat),ks, .int .i64 (nd.keys.length:Nat), .int .i64 (0:Nat)] t=some (.exit 0 [.int .i64 (whereN nd key:Nat)],t):=by
  refine uX (fun i=>[S key, .ptr A1 0, .int .i64 ((((nd.keys.take i).filter fun k=>ltS k key||(!nd.leaf&&decide (k=key))).length:Nat):Int),ks, .int .i64 (nd.keys.length:Nat), .int .i64 (i:Nat)]) nd.keys.length ?_ ?_ n (by omega)
  .intro i hi;obtain⟨p,o,a⟩:=r1.at hi;rw[<-vT (d:=[])]at a;have f:((i:Nat):Int)< (nd.keys.length:Int):=by omega
   rw[zDw nd.keys hi,<-u];have J:((nd.keys.take i).filter fun k=>ltS k key||(!la&&decide (k=key))).length<=nd.keys.length:=qN (List.length_filter_le _ _) (by rw[qC];omega);generalize((nd.keys.take i).filter fun k=>ltS k key||(!la&&decide (k=key))).length=c at J;generalize nd.keys.getD i []=x at a
   cases q:ltS x key with
   | true=>simp(disch:=omega) only[zCc,zDy,eZ,f,o,a,q,yH]
   | false=>
    cases la with
    | true=>simp(disch:=omega) only[zCc,zDy,eZ,f,o,a,q,jM j,yH,Nat.add_zero]
    | false=>
     by_cases C:x=key
     .subst C;simp(disch:=omega) only[zCc,zDy,eZ,f,o,a,q,jM j,yH]
     .simp(disch:=omega) only[zCc,zDy,eZ,f,o,a,q,jM j,C,yH,Nat.add_zero]
  .intro m;refine jW ?_;rw[j9];simp only[zCc,eZ,y7,whereN]
 refine⟨t, ?_,z⟩;simp only[f79,eZ,b1,jM j,y.lnSl,O,zQx]
end Go.Eng.Sh
namespace Go.Eng
theorem K7 (n:kZ k w h A t l)(m:0<k)(y:0<t)(κ:IntKind):
  ∃r,vN k A (some (.int κ (t:Nat))) none none h=some r/\Rw k h r 0 []:=by
 have j:=kL κ (z:=(t:Int)) (by omega);simp only[yC]at j;have hb:Nat.blt 0 k=true:=by rw[qE];exact m
 have b1:Nat.ble t t=true:=by rw[qW];exact zM _
 have b2:Nat.blt t t=false:=by rw[qY];intro n;rw[qE]at n;omega
 have q:Nat.beq t 0=false:=by rw[qY];intro n;have:=Nat.eq_of_beq_eq_true n;omega
 rcases n with⟨o,⟨rfl,rfl⟩ | ⟨H,rfl,p,a⟩⟩ | ⟨o,H,e,g,rfl,p,a,x⟩
 .omega
 .have f:kQ l true k 0 1 k=t:=by
   simp only[kQ,show((1 % 2).beq 0)=false from rfl,qH,yF,show Nat.beq 0 (1 / 2*k)=true from by simp,qP,zP,jY,o,jD];exact Nat.mul_div_cancel _ m
  refine⟨.eS, ?_,⟨by simp, .inr (.inl ⟨rfl,rfl⟩)⟩⟩;simp only[vN,kY,j,a,hb,zP];simp[JC,f,b1,b2,q,show Nat.beq 1 0=false from rfl]
 .have f:kQ l g k 0 (2*t) k=t:=by
   simp only[kQ,show((2*t) % 2).beq 0=true by rw[jC];rfl,zP,yP t (show 0<2 by omega)]
  have u:Nat.beq (2*t / 2) t=true:=by rw[yP t (show 0<2 by omega),yF]
  refine⟨.slice H 0 0 (2*(2*t / 2 - t)), ?_,⟨by simp, .inr (.inr ⟨H,0,_,l,e,k,g,rfl,a,p,by omega,by simp⟩)⟩⟩;simp only[vN,kY,j,a,hb,zP];simp[JC,f,b1,u,kF]
end Go.Eng
namespace Go.Eng.Sh
theorem zCw(o:h.ok){l:List Str}(H:kZ 1 9 h A l.length (l.map S))(hl:l.length<=1000000000):
  ∃a H',f108 D n [A] h=some (a,H')/\Prs h H'/\kZ 1 9 H' a l.length (l.map S)/\(∀B,Blk a B->h.next<=B)/\(0<l.length->Own 1 9 H' a l.length (l.map S)):=by
 have hr:=H.row;by_cases u:A= .nS
 .subst u;have J:l=[]:=by
   rcases H with⟨_,⟨_,j⟩ | ⟨v,j,_⟩⟩ | ⟨_,v,_,_,j,_⟩
   .exact zW j
   .cases j
   .cases j
  subst J;refine⟨.nS,h, ?_,zRo o, .inl (zRw ..),fun B x=>(zRu.1 x).elim,fun H=>absurd H (by simp)⟩;have t:dS .eql (eqS .nS .nS)=some (.bool true):=rfl;simp only[f108,eZ,t]
 .have K:A≠ .eS:=by
   rcases H with⟨_,⟨rfl,_⟩ | ⟨v,rfl,_⟩⟩ | ⟨_,v,_,_,rfl,_⟩<;>simp
  by_cases j:l.length=0
  .obtain⟨a,H',e,p,g,f⟩:=Y9 D n o hr u K hl;exact⟨a,H',e,p,g,f,fun H=>absurd H (by omega)⟩
  .have q:Prs h (h.push (.cells [] 9 1 false)):=(zRo o).push _;have y:(h.push (.cells [] 9 1 false)).h.get h.next=some (.cells [] 9 1 false):=zRg _ _
   have T:(h.push (.cells [] 9 1 false)).next=h.next+1:=rfl
   generalize N:h.push (.cells [] 9 1 false)=H1 at q y T;have Y:=VE (k:=1) (e:=9) (bytes:=16) (n:=0) (m:=l.length) (off:=0) (new:=l.map S) q.ok y (by simp) (by omega) (by omega) (by decide);have z:apP 9 1 16 (.slice h.next 0 0 0) A H1=some (.slice H1.next 0 (0+l.length) 1,H1.push (.cells (([]:List AV).drop 0 |>.take (0*1) |> (· ++l.map S)) 9 1 true)):=by
    simp only[apP,(hr.prs q).srcOf,vR,zP];exact Y
   have O:dW 9 1 0 [.str 0 0] []=some (.cells [] 9 1 false,fun v=> .slice v 0 0 0):=rfl;have t:dS .eql (eqS A .nS)=some (.bool false):=by
    rcases H with⟨_,⟨rfl,_⟩ | ⟨v,rfl,_⟩⟩ | ⟨_,v,_,_,rfl,_⟩
    .exact absurd rfl u
    .rfl
    .rfl
   simp only[List.drop_nil,List.take_nil,qX,yZ]at z;have C:Own 1 9 (H1.push (.cells (l.map S) 9 1 true)) (.slice H1.next 0 l.length 1) l.length (l.map S):=⟨by simp, .inr ⟨_,rfl,Nat.lt_succ_self _,zRg _ _⟩⟩
   refine⟨.slice H1.next 0 l.length 1,H1.push (.cells (l.map S) 9 1 true), ?_,q.push _, .inl C,fun B x=>by rw[zRl.1 x];omega,fun _=>C⟩
   simp only[f108,eZ,t,O,kX o,N,z]
theorem zC2(m:h.ok){l:List Str}{i:Nat}{x:Str}(H:kZ 1 9 h A l.length (l.map S))(T:0<l.length->Own 1 9 h A l.length (l.map S))(hi:i<=l.length)(hl:l.length<=200000000)(p:h.h.get k=some (.cells [S x] 9 1 false)):
  ∃a H',zPi D n [A, .int .i64 (i:Nat), .slice k 0 1 2] h=some (a,H')/\Stp (Blk A) h H'/\kZ 1 9 H' a (l.take i++[x]++l.drop i).length ((l.take i++[x]++l.drop i).map S)/\ ∀C,Blk a C->Blk A C\/h.next<=C:=by
 have Y:Strs h (.slice k 0 1 2) [x]:=Rw.lit (cc:=2) m p;have l1:lnSl (.slice k 0 1 2)=some (.int .i64 (1:Nat)):=rfl;have t10: ¬((1:Nat):Int)=((0:Nat):Int):=by omega
 by_cases K:i=l.length
 .subst K;have Z: ∃r,vN 1 A (some (.int .i64 (l.length:Nat))) none none h=some r:=by
   by_cases q:0<l.length
   .obtain⟨r,e,_⟩:=K7 H (by decide) q .i64;exact⟨r,e⟩
   .have f:l.length=0:=by omega
    rw[f];rcases H with⟨_,⟨rfl,_⟩ | ⟨v,rfl,_,j⟩⟩ | ⟨_,v,e',g,rfl,_,j,_⟩
    .exact⟨.nS,rfl⟩
    .rw[f];have:l=[]:=zW f;subst this;exact⟨.slice v 0 0 1,by simp[vN,kY,kL,j,JC,kF,kQ,show Nat.blt 0 1=true from rfl,show Nat.ble 0 0=true from rfl,show Nat.beq 1 0=false from rfl,show Nat.beq 0 0=true from rfl,YW,show Nat.beq 1 1=true from rfl,Z9,bne]⟩
    .rw[f];have:l=[]:=zW f;subst this;exact⟨.slice v 0 0 0,by simp[vN,kY,kL,j,JC,kF,kQ,show Nat.blt 0 1=true from rfl,show Nat.ble 0 0=true from rfl,show Nat.beq 0 0=true from rfl,YW]⟩
  obtain⟨r,hr⟩:=Z;obtain⟨a,H',e2,w2,s2,f2⟩:=H.app (bytes:=16) m (by decide) Y.srcOf (by simp) (vR _) (by simp;omega) (by decide);refine⟨a,H', ?_,s2,by simpa using w2,f2⟩;have:f138 D n [A, .int .i64 (l.length:Nat), .slice k 0 1 2] h=some (a,H'):=by
   simp only[f138,eZ,hr,l1,t10,H.row.lnSl,e2]
  show zOf (f138 D n) _ h=_;simp only[zOf,this]
 .have o:i<l.length:=by omega
  have hO:=T (by omega);obtain⟨_,⟨_,q⟩ | ⟨v,rfl,t,j⟩⟩:=id hO
  .omega
  .obtain⟨r,hr,_⟩:=YN H (by decide) o .i64;have u: ¬(i:Int)=(l.length:Int):=by omega
   have y:zOZ X 117 (.slice v 0 l.length 1)=none:=rfl;have N:f138 D n [.slice v 0 l.length 1, .int .i64 (i:Nat), .slice k 0 1 2] h=none:=by
    simp(disch:=omega) only[f138,eZ,hr,l1,t10,H.row.lnSl,u,y];rfl
   have b1:Nat.blt i l.length=true:=by rw[qE];exact o
   have b2:Nat.ble ((l.length+1)*16) 140737488355328=true:=by rw[qW];omega
   have O:(h.put v .dead).ok:=m.put t _;refine⟨.slice (h.put v .dead).next 0 (l.length+1) 1,(h.put v .dead).push (.cells ((l.map S).take i++[S x]++(l.map S).drop i) 9 1 true), ?_,((zRo m).put t _ (.inr (zRl.2 rfl))).push _, ?_,fun C hC=> .inr (by rw[zRl.1 hC];exact zM _)⟩
   .show zOf (f138 D n) _ h=_;simp only[zOf,N];show zPj 9 [.slice v 0 l.length 1, .int .i64 (.ofNat i), .slice k 0 1 2] h=_;simp only[zPj,j,p,b1,b2,vR,jY,jE,yF,show Nat.blt 0 1=true from rfl,show Nat.beq 1 1=true from rfl,show Nat.beq 0 0=true from rfl,show Nat.beq 9 9=true from rfl,qP,Bool.not_false,zP,bC,takeN,jP,JY,kT,Z4,ZN O,kF]
   .have z:(l.take i++[x]++l.drop i).length=l.length+1:=by simp;omega
    have J:(l.take i++[x]++l.drop i).map S=(l.map S).take i++[S x]++(l.map S).drop i:=by simp
    rw[z,J];exact .inl ⟨by simp;omega, .inr ⟨_,rfl,Nat.lt_succ_self _,zRg _ _⟩⟩
end Go.Eng.Sh
namespace Go.Eng
theorem Own.set1 {l:List Str}(f:h.ok)(e:Own 1 k h A l.length (l.map S)){i:Nat}(hi:i<l.length)(x:Str):
  ∃p H',(∀κ (z:Int),z=(i:Int)->dV 1 A (.int κ z)=some p)/\stN 1 p (S x) h=some (jQ,H')/\Own 1 k H' A (l.set i x).length ((l.set i x).map S)/\Stp (Blk A) h H':=by
 obtain⟨o,⟨_,q⟩ | ⟨H,rfl,a,j⟩⟩:=e
 .omega
 .have hb:Nat.blt i l.length=true:=by rw[qE];exact hi
  refine⟨.ptr H (0+i*1),_,fun κ z m=> ?_,cE j (by decide) (JY x) (by simpa using hi),⟨by simp, .inr ⟨H,by simp,a,by rw[zRk,if_pos rfl];simp[List.map_set]⟩⟩,(zRo f).put a _ (.inr (zRl.2 rfl))⟩;subst m;simp only[dV,kL κ (show(0:Int)<=(i:Int)by omega),yC,hb,zP,kF]
end Go.Eng
namespace Go.Eng.Sh
open Go.Nd (whereN hereN zKC)
def zFG (nd:Nd.Node)(key value:Str):Bool:=Nd.shaped ltS nd&&nd.leaf&&Nd.mayK key&&decide (value.length<=200)
theorem zKB(hn:200000000<=n)(hk:h.ok){key value:Str}(H:jZ h A G)(hs:small G):
  ∃u H',f89 D n [A,S key,S value] h=some (.tuple [u, .int .i64 (if zFG G key value then 0 else 1:Nat)],H')/\Prs h H'/\vW h.next H' u (if zFG G key value then zKC G key value else nd0):=by
 have i0:=H.node;obtain⟨ks,vs,ps,rfl,h1,h2,h3⟩:=H;have i7:=Nd.sumL_ge G.keys;have i8:=Nd.sumL_ge G.vals;have s0:=hs;obtain⟨s1,s2,s3⟩:=hs;obtain⟨la,b7⟩: ∃la,la=G.leaf:=⟨_,rfl⟩;obtain⟨po,t⟩: ∃po,po=zFG G key value:=⟨_,rfl⟩;rw[<-t,<-b7];rw[<-b7]at i0;simp only[zFG,<-b7]at t;obtain⟨H1,A1,b1,p1,g1,m1,n1⟩:=box hk (.cells [.bool la,ks,vs,ps] 119 1 false);obtain⟨H2,A2,b2,p2,g2,m2,n2⟩:=box p1.ok (.cells [.bool false, .nS, .nS, .nS] 119 1 false);have P2:Prs h H2:=p1.trans p2;have Z:=p2.get p1.ok g1;obtain⟨y,e4,p4⟩:=bN D n P2.ok (i0.prs P2) s0 hn;have J:=P2.trans p4;have a0:=p4.get P2.ok Z;have d4:=p4.get P2.ok g2;obtain⟨Hr,er,gr,sr,nr⟩:=jV J.ok d4 (l':=[.bool false, .nS, .nS, .nS]) rfl rfl;have b8:stN 4 (.ptr A2 0) (.agg [.bool false, .nS, .nS, .nS]) y=some (jQ,Hr):=er;have Pr:Prs h Hr:=J.fresh sr (fun B a=>by omega);have lr:=gJ gr rfl
 cases c1:Nd.shaped ltS G with
 | false=>
  simp only[c1,Bool.false_and,Bool.and_false]at t;subst t;refine⟨.agg [.bool false, .nS, .nS, .nS],Hr, ?_,Pr,vW.zero _ _⟩;simp only[zL,qD];simp(maxSteps:=999999)(disch:=omega) only[f89,eZ,b1,b2,jR Z,ZH,qB,e4,c1,ZW,b8,lr]
 | true=>
 cases la with
 | false=>
  simp only[Bool.false_and,Bool.and_false]at t;subst t;refine⟨.agg [.bool false, .nS, .nS, .nS],Hr, ?_,Pr,vW.zero _ _⟩;simp only[zL,qD];simp(maxSteps:=999999)(disch:=omega) only[f89,eZ,b1,b2,jR Z,ZH,qB,e4,c1,jM a0,ZW,b8,lr]
 | true=>
 cases c2:Nd.mayK key with
 | false=>
  simp only[c2,Bool.false_and,Bool.and_false]at t;subst t;refine⟨.agg [.bool false, .nS, .nS, .nS],Hr, ?_,Pr,vW.zero _ _⟩;simp only[zL,qD];simp(maxSteps:=999999)(disch:=omega) only[f89,eZ,b1,b2,jR Z,ZH,qB,e4,c1,jM a0,wF,c2,ZW,b8,lr]
 | true=>
 by_cases c3:value.length<=200
 case neg=>
  have a5:((200:Nat):Int)< (value.length:Int):=by omega
  simp only[c3,decide_false,Bool.and_false]at t;subst t;refine⟨.agg [.bool false, .nS, .nS, .nS],Hr, ?_,Pr,vW.zero _ _⟩
  .simp only[zL,qD];simp(maxSteps:=999999)(disch:=omega) only[f89,eZ,b1,b2,jR Z,ZH,qB,e4,c1,jM a0,wF,c2,a5,ZW,b8,lr]
 case pos=>
 have a5: ¬((200:Nat):Int)< (value.length:Int):=by omega
 simp only[c1,c2,c3,decide_true,qP]at t;subst t;simp only[if_true];have i9:G.vals.length=G.keys.length:=by
  simp only[Nd.shaped,<-b7,if_true,zE,zR]at c1;exact c1.2.1.1
 obtain⟨H5,T,b5,p5,g5,m5,n5⟩:=box J.ok (.cells [.bool false, .nS, .nS, .nS] 119 1 false);have P5:=J.trans p5;have up1 {f:AH} (p:Prs y f):=zRt p J.ok a0;have up2 {f:AH} (p:Prs y f):=zRt p J.ok d4;have q1 {f:AH} (p:Prs h f):kZ 1 9 f ks G.keys.length (G.keys.map S):=h1.mono p (fun _ _ x=>x);have q2 {f:AH} (p:Prs h f):kZ 1 9 f vs G.vals.length (G.vals.map S):=h2.mono p (fun _ _ x=>x);obtain⟨C,H6,e6,p6,o6,f6,t6⟩:=zCw D n P5.ok (q1 P5) (by omega);have P6:=P5.trans p6;obtain⟨j,H7,e7,p7,o7,f7,t7⟩:=zCw D n P6.ok (q2 P6) (by omega);have P7:=P6.trans p7;obtain⟨H8,e8,g8,s8,n8⟩:=jV P7.ok (zRt (p6.trans p7) P5.ok g5) (l':=[.bool true,C,j, .nS]) rfl (by simp only[jP,o6.row.isCell,o7.row.isCell];rfl);have c4:stN 4 (.ptr T 0) (.agg [.bool true,C,j, .nS]) H7=some (jQ,H8):=e8;have N6:=p6.next
 have N7:=p7.next
 have f8:Prs y H7:=(p5.trans p6).trans p7;have a6:Prs y H8:=f8.fresh s8 (fun B a=>by omega);have P8:=J.trans a6;have k1:kZ 1 9 H8 C G.keys.length (G.keys.map S):=(o6.mono p7 (fun _ _ x=>x)).mono s8 (fun B a e=>by have:=f6 B a;omega);have k2:kZ 1 9 H8 j G.vals.length (G.vals.map S):=o7.mono s8 (fun B a e=>by have:=f7 B a;omega);have a1: ∀B,Blk C B->T<B/\B<H6.next:=fun B a=>⟨by have:=f6 B a;omega,o6.lt a⟩
 have m: ∀B,Blk j B->H6.next<=B/\B<H8.next:=fun B a=>⟨f7 B a,k2.lt a⟩
 obtain⟨H9,e9,K⟩:=QF D n hn P8.ok (key:=key) (i0.prs P8) s0;have P9:=P8.trans K;have a7:Prs y H9:=a6.trans K;have a8:=K.get P8.ok g8;have f9:=Nd.whereN_le G key;have c5:=h1.row.lnSl;have N9:=K.next
 have N5:=p5.next
 have N4:=p4.next
 have d5: ∀ {f:AH} {l:List AV},Prs h f->f.h.get A2=some (.cells [.bool false, .nS, .nS, .nS] 119 1 false)->l.length=4->jP l=true-> ∃Y,stN 4 (.ptr A2 0) (.agg l) f=some (jQ,Y)/\Prs h Y/\Stp (fun B=>B=A2) f Y/\ldN 4 (.ptr A2 0) Y=some (.agg l):=fun {f l} px hg hl hc=>by
  obtain⟨Y,e,g,s,_⟩:=jV px.ok hg hl hc;have e':stN 4 (.ptr A2 0) (.agg l) f=some (jQ,Y):=e;exact⟨Y,e',px.fresh s (fun B a=>by omega),s,gJ g hl⟩
 obtain⟨a2,B1,d6,N,g0,j0,j3⟩:=box P9.ok (.cells [S key] 9 1 false);have g3:Prs y a2:=a7.trans N;have g4:0<G.keys.length->Own 1 9 a2 C G.keys.length (G.keys.map S):=fun H=>(((t6 H).mono p7 (fun _ _ x=>x)).mono s8 (fun B a e=>by have:=f6 B a;omega)).mono (K.trans N) (fun _ _ x=>x)
 obtain⟨z,d7,d8,a9,c6,f11⟩:=zC2 D n N.ok (k1.mono (K.trans N) (fun _ _ x=>x)) g4 f9 (by omega) (x:=key) g0;have g6:d7.h.get T=some (.cells [.bool true,C,j, .nS] 119 1 false):=by rw[a9.keep _ (by have:=N.next;omega) (fun a=>by have:=a1 _ a;omega)];exact N.get P9.ok a8
 have d9:Prs y d7:=g3.fresh a9 (fun B a=>by have:=a1 B a;omega);obtain⟨e0,e1,a4,b0,j4⟩:=xM d9.ok g6 (o:=1) (x:=z) c6.row.isCell (by simp);have a4:e0.h.get T=some (.cells [.bool true,z,j, .nS] 119 1 false):=a4;have c7:Prs y e0:=d9.fresh b0 (fun B a=>by omega);obtain⟨c8,B2,e2,a3,g7,j5,j6⟩:=box c7.ok (.cells [S value] 9 1 false);have g9:Prs y c8:=c7.trans a3;have e3: ∀B,Blk j B-> ¬Blk C B:=fun B a b3=>by have:=a1 B b3;have:=m B a;omega
 have h0:kZ 1 9 c8 j G.vals.length (G.vals.map S):=(((k2.mono (K.trans N) (fun _ _ x=>x)).mono a9 e3).mono b0 (fun B a e=>by have:=m B a;omega)).mono a3 (fun _ _ x=>x);have h4:0<G.vals.length->Own 1 9 c8 j G.vals.length (G.vals.map S):=fun H=>(((((t7 H).mono s8 (fun B a e=>by have:=f7 B a;omega)).mono (K.trans N) (fun _ _ x=>x)).mono a9 e3).mono b0 (fun B a e=>by have:=m B a;omega)).mono a3 (fun _ _ x=>x)
 obtain⟨O,e5,f1,c9,d0,h5⟩:=zC2 D n a3.ok h0 h4 (i:=whereN G key) (by omega) (by omega) (x:=value) g7;have j7:=N.next
 have j8:=a9.next
 have j9:=b0.next
 have k0:=a3.next
 have h6:e5.h.get T=some (.cells [.bool true,z,j, .nS] 119 1 false):=by rw[c9.keep _ (by omega) (fun a=>by have:=m _ a;omega)];exact a3.get c7.ok a4
 have f2:Prs y e5:=g9.fresh c9 (fun B a=>by have:=m B a;omega);obtain⟨f3,f4,b9,d1,k3⟩:=xM f2.ok h6 (o:=2) (x:=O) d0.row.isCell (by simp);have b9:f3.h.get T=some (.cells [.bool true,z,O, .nS] 119 1 false):=b9;have f5:Prs y f3:=f2.fresh d1 (fun B a=>by omega);have h7:jP [.bool true,z,O, .nS]=true:=by simp only[jP,c6.row.isCell,d0.row.isCell];rfl
 obtain⟨Hz,ez,Pz,sz,lz⟩:=d5 (l:=[.bool true,z,O, .nS]) (J.trans f5) (up2 f5) rfl h7;have b4: ∀B,Blk z B->T<B/\(B<H6.next\/a2.next<=B):=fun B a=>by
  rcases f11 B a with H | H
  .have:=a1 B H;omega
  .omega
 have d2: ∀B,Blk O B->T<B:=fun B a=>by
  rcases h5 B a with H | H
  .have:=m B H;omega
  .omega
 have k4:=J.next
 have rz:vW h.next Hz (.agg [.bool true,z,O, .nS]) ⟨true,G.keys.take (whereN G key)++[key]++G.keys.drop (whereN G key),G.vals.take (whereN G key)++[value]++G.vals.drop (whereN G key),[]⟩:=
  ⟨⟨z,O, .nS,rfl,((((c6.mono b0 (fun B a e=>by have:=b4 B a;omega)).mono a3 (fun _ _ x=>x)).mono c9 (fun B a b3=>by have:=b4 B a;have:=m B b3;omega)).mono d1 (fun B a e=>by have:=b4 B a;omega)).mono sz (fun B a e=>by have:=b4 B a;omega),
   (d0.mono d1 (fun B a e=>by have:=d2 B a;omega)).mono sz (fun B a e=>by have:=d2 B a;omega), .inl (zRw ..)⟩,fun B a=>by
     rcases wO.1 a with H | H | H
     .have:=b4 B H;omega
     .have:=d2 B H;omega
     .exact(zRu.1 H).elim⟩
 by_cases d3:whereN G key<G.keys.length
 .obtain⟨q,j1,j2⟩:=(q1 P9).row |> (fun(r:Strs H9 ks G.keys)=>r.at d3);rw[<-vT (d:=[])]at j2;have b6:((whereN G key:Nat):Int)< (G.keys.length:Int):=by omega
  by_cases c0:G.keys.getD (whereN G key) []=key
  .have hh:hereN G key=true:=by simp only[hereN,c0,decide_true,Bool.and_true,zR];exact d3
   rw[c0]at j2;have h8:=(t7 (by omega)).mono s8 (fun B a e=>by have:=f7 B a;omega);obtain⟨p,a2,i1,i2,i3,i4⟩:=Own.set1 P9.ok (h8.mono K (fun _ _ x=>x)) (i:=whereN G key) (by omega) value;have h9:Prs h a2:=P9.fresh i4 (fun B a=>by have:=m B a;have:=P5.next;omega)
   have i5:a2.h.get T=some (.cells [.bool true,C,j, .nS] 119 1 false):=by rw[i4.keep _ (by omega) (fun a=>by have:=m _ a;omega)];exact a8
   have i6:a2.h.get A2=some (.cells [.bool false, .nS, .nS, .nS] 119 1 false):=by rw[i4.keep _ (by omega) (fun a=>by have:=m _ a;omega)];exact up2 a7
   obtain⟨Y,ey,Py,sy,ly⟩:=d5 (l:=[.bool true,C,j, .nS]) h9 i6 rfl (by simp only[jP,o6.row.isCell,o7.row.isCell];rfl);refine⟨.agg [.bool true,C,j, .nS],Y, ?_,Py, ?_⟩
   .simp(maxSteps:=999999)(disch:=omega) only[f89,eZ,b1,b2,jR Z,ZH,qB,e4,c1,jM a0,wF,c2,a5,b5,e6,kW (jM (up1 (p5.trans p6)) 2) (kK h2.row),e7,zJv _ o6.row.isCell o7.row.isCell,c4,jR (up1 a6),e9,jM (up1 a7),c5,b6,j1,j2,jM a8,i1,i2,gJ i5 rfl,ey,ly]
   .have:zKC G key value=⟨true,G.keys,G.vals.set (whereN G key) value,[]⟩:=by simp only[zKC,hh,if_true]
    rw[this];have NN:=J.next
    refine⟨⟨C,j, .nS,rfl, ?_, ?_, .inl (zRw ..)⟩,fun B a=>by
     rcases wO.1 a with H | H | H
     .have:=a1 B H;omega
     .have:=m B H;omega
     .exact(zRu.1 H).elim⟩
    .exact((k1.mono K (fun _ _ x=>x)).mono i4 (fun B a b3=>by have:=a1 B a;have:=m B b3;omega)).mono sy (fun B a e=>by have:=a1 B a;omega)
    .exact .inl (i3.mono sy (fun B a e=>by have:=m B a;omega))
  .have hh:hereN G key=false:=by simp only[hereN,c0,decide_false,Bool.and_false]
   refine⟨.agg [.bool true,z,O, .nS],Hz, ?_,Pz, ?_⟩
   .simp(maxSteps:=999999)(disch:=omega) only[f89,eZ,b1,b2,jR Z,ZH,qB,e4,c1,jM a0,wF,c2,a5,b5,e6,kW (jM (up1 (p5.trans p6)) 2) (kK h2.row),e7,zJv _ o6.row.isCell o7.row.isCell,c4,jR (up1 a6),e9,jM (up1 a7),c5,b6,j1,j2,c0,jM a8,zNE 9 (.str 0 0) (JY key),d6,d8,e1,jM a4,zNE 9 (.str 0 0) (JY value),e2,f1,f4,gJ b9 rfl,ez,lz]
   .simp only[zKC,hh,zL,qD];exact rz
 .have hh:hereN G key=false:=by simp only[hereN,d3,decide_false,Bool.false_and]
  have b6: ¬((whereN G key:Nat):Int)< (G.keys.length:Int):=by omega
  refine⟨.agg [.bool true,z,O, .nS],Hz, ?_,Pz, ?_⟩
  .simp(maxSteps:=999999)(disch:=omega) only[f89,eZ,b1,b2,jR Z,ZH,qB,e4,c1,jM a0,wF,c2,a5,b5,e6,kW (jM (up1 (p5.trans p6)) 2) (kK h2.row),e7,zJv _ o6.row.isCell o7.row.isCell,c4,jR (up1 a6),e9,jM (up1 a7),c5,b6,jM a8,zNE 9 (.str 0 0) (JY key),d6,d8,e1,jM a4,zNE 9 (.str 0 0) (JY value),e2,f1,f4,gJ b9 rfl,ez,lz]
  .simp only[zKC,hh,zL,qD];exact rz
open Go.Nd (zPq)
theorem hi1 {l:List Str}(H:kZ 1 9 h A l.length (l.map S)){i:Nat}(hi:i<=l.length):
  ∃r,vN 1 A none (some (.int .i64 (i:Nat))) (some (.int .i64 (i:Nat))) h=some r/\Strs h r (l.take i):=by
 obtain⟨r,f,w,_⟩:=zAf H (by decide) hi .i64 .i64;rw[map_take]at w;have a:(l.take i).length=i:=by rw[qC];omega
 exact⟨r,f,by rw[Strs,a];exact w⟩
theorem lo1 {l:List Str}(H:kZ 1 9 h A l.length (l.map S)){i:Nat}(hi:i<=l.length)(m:0<l.length):
  ∃r,vN 1 A (some (.int .i64 (i:Nat))) none none h=some r/\Strs h r (l.drop i):=by
 by_cases j:i<l.length
 .obtain⟨r,a,w,_⟩:=YN H (by decide) j .i64;rw[map_drop]at w;have f:(l.drop i).length=l.length - i:=by rw[qL]
  exact⟨r,a,by rw[Strs,f];exact w⟩
 .obtain rfl:i=l.length:=by omega
  obtain⟨r,a,w⟩:=K7 H (by decide) m .i64;exact⟨r,a,by rw[List.drop_length];exact w⟩
def zPr (nd:Nd.Node)(key:Str):Nat:=if Nd.shaped ltS nd&&nd.leaf then(if hereN nd key then 0 else 5)else 1
theorem zLj(hn:200000000<=n)(hk:h.ok){key:Str}(H:jZ h A i)(hs:small i):
  ∃u H',f84 D n [A,S key] h=some (.tuple [u, .int .i64 (zPr i key:Nat)],H')/\Prs h H'/\vW h.next H' u (if zPr i key=0 then zPq i key else nd0):=by
 have i0:=H.node;obtain⟨ks,vs,ps,rfl,h1,h2,h3⟩:=H;have b3:=Nd.sumL_ge i.keys;have b4:=Nd.sumL_ge i.vals;have s0:=hs;obtain⟨s1,s2,s3⟩:=hs;obtain⟨la,T⟩: ∃la,la=i.leaf:=⟨_,rfl⟩;obtain⟨po,a⟩: ∃po,po=zPr i key:=⟨_,rfl⟩;rw[<-a,<-T];rw[<-T]at i0;simp only[zPr,<-T]at a;obtain⟨H1,A1,b1,p1,g1,m1,n1⟩:=box hk (.cells [.bool la,ks,vs,ps] 119 1 false);obtain⟨H2,A2,b2,p2,g2,m2,n2⟩:=box p1.ok (.cells [.bool false, .nS, .nS, .nS] 119 1 false);have C:Prs h H2:=p1.trans p2;have y:=p2.get p1.ok g1;obtain⟨H4,J,p4⟩:=bN D n C.ok (i0.prs C) s0 hn;have t:=C.trans p4;have o:=p4.get C.ok y;have a7:=p4.get C.ok g2;have a2: ∀ {f:AH} {l:List AV},Prs H4 f->l.length=4->jP l=true-> ∃m,stN 4 (.ptr A2 0) (.agg l) f=some (jQ,m)/\Prs h m/\Stp (fun B=>B=A2) f m/\ldN 4 (.ptr A2 0) m=some (.agg l):=fun {f l} px hl hc=>by
  obtain⟨m,e,g,s,_⟩:=jV px.ok (zRt px t.ok a7) hl hc;have e':stN 4 (.ptr A2 0) (.agg l) f=some (jQ,m):=e;exact⟨m,e',(t.trans px).fresh s (fun B z=>by omega),s,gJ g hl⟩
 obtain⟨Hr,er,Pr,sr,lr⟩:=a2 (Prs.refl t.ok) (l:=[.bool false, .nS, .nS, .nS]) rfl rfl
 cases c1:Nd.shaped ltS i with
 | false=>
  simp only[c1,Bool.false_and,zL,qD]at a;subst a;refine⟨.agg [.bool false, .nS, .nS, .nS],Hr, ?_,Pr,vW.zero _ _⟩;simp(maxSteps:=999999)(disch:=omega) only[f84,eZ,b1,b2,jR y,ZH,qB,J,c1,ZW,er,lr]
 | true=>
 cases la with
 | false=>
  simp only[Bool.and_false,zL,qD]at a;subst a;refine⟨.agg [.bool false, .nS, .nS, .nS],Hr, ?_,Pr,vW.zero _ _⟩;simp(maxSteps:=999999)(disch:=omega) only[f84,eZ,b1,b2,jR y,ZH,qB,J,c1,jM o,ZW,er,lr]
 | true=>
 have b5:i.vals.length=i.keys.length:=by
  simp only[Nd.shaped,<-T,if_true,zE,zR]at c1;exact c1.2.1.1
 simp only[c1,qP,if_true]at a;obtain⟨H5,e5,K⟩:=QF D n hn t.ok (key:=key) (i0.prs t) s0;have j:=t.trans K;have Y:=K.get t.ok o;have b8:=Nd.whereN_le i key;have a3:=h1.row.lnSl;obtain⟨Hs,es,Ps,ss,ls⟩:=a2 K (l:=[.bool false, .nS, .nS, .nS]) rfl rfl;have q1 {f:AH} (p:Prs h f):kZ 1 9 f ks i.keys.length (i.keys.map S):=h1.mono p (fun _ _ x=>x);have q2 {f:AH} (p:Prs h f):kZ 1 9 f vs i.vals.length (i.vals.map S):=h2.mono p (fun _ _ x=>x);by_cases a4:whereN i key<i.keys.length
 case neg=>
  have N:hereN i key=false:=by simp only[hereN,a4,decide_false,Bool.false_and]
  have O:(i.keys.length:Int)<=((whereN i key:Nat):Int):=by omega
  simp only[N,zL,qD]at a;subst a;refine⟨.agg [.bool false, .nS, .nS, .nS],Hs, ?_,Ps,vW.zero _ _⟩;simp(maxSteps:=999999)(disch:=omega) only[f84,eZ,b1,b2,jR y,ZH,qB,J,c1,jM o,jR o,e5,jM Y,a3,O,ZW,es,ls]
 case pos=>
 obtain⟨q,j1,j2⟩:=(q1 j).row |> (fun(r:Strs H5 ks i.keys)=>r.at a4);rw[<-vT (d:=[])]at j2;have O: ¬(i.keys.length:Int)<=((whereN i key:Nat):Int):=by omega
 by_cases Z:i.keys.getD (whereN i key) []=key
 case neg=>
  have N:hereN i key=false:=by simp only[hereN,Z,decide_false,Bool.and_false]
  simp only[N,zL,qD]at a;subst a;refine⟨.agg [.bool false, .nS, .nS, .nS],Hs, ?_,Ps,vW.zero _ _⟩;simp(maxSteps:=999999)(disch:=omega) only[f84,eZ,b1,b2,jR y,ZH,qB,J,c1,jM o,jR o,e5,jM Y,a3,O,j1,j2,ne_eq,Z,yD,ZW,es,ls]
 case pos=>
 have N:hereN i key=true:=by simp only[hereN,Z,decide_true,Bool.and_true,zR];exact a4
 simp only[N,if_true]at a;subst a;generalize hw:whereN i key=v at*
 obtain⟨r1,a8,x1⟩:=hi1 (q1 j) (i:=v) (by omega);obtain⟨r2,a5,x2⟩:=lo1 (q1 j) (i:=v+1) (by omega) (by omega);obtain⟨r3,a9,x3⟩:=hi1 (q2 j) (i:=v) (by omega);obtain⟨r4,a6,x4⟩:=lo1 (q2 j) (i:=v+1) (by omega) (by omega);obtain⟨H6,A6,b6,p6,g6,m6,n6⟩:=box j.ok (.cells [r1,r2] 117 1 false);have P6:=j.trans p6;obtain⟨H7,A7,b7,p7,g7,m7,n7⟩:=box P6.ok (.cells [r3,r4] 117 1 false);have P7:=P6.trans p7;have a0:Prs H5 H7:=p6.trans p7;obtain⟨w8,H8,e8,p8,o8,f8⟩:=zLo D n (cc:=4) P7.ok (p7.get P6.ok g6) (x1.prs a0) (x2.prs a0) (by simp only[qC,qL];omega) (by omega);have P8:=P7.trans p8;have a1:=a0.trans p8;obtain⟨w9,H9,e9,p9,o9,f9⟩:=zLo D n (cc:=4) P8.ok (p8.get P7.ok g7) (x3.prs a1) (x4.prs a1) (by simp only[qC,qL];omega) (by omega);have b0:=a1.trans p9;obtain⟨m,ey,Py,sy,ly⟩:=a2 (K.trans b0) (l:=[.bool true,w8,w9, .nS]) rfl (by simp only[jP,o8.row.isCell,o9.row.isCell];rfl);have N7:=a0.next;have N5:=K.next;have N4:=p4.next;have N8:=p8.next
 simp only[yH]at a5 a6;have up {f:AH} (p:Prs H5 f):=zRt p j.ok Y;refine⟨.agg [.bool true,w8,w9, .nS],m, ?_,Py, ?_⟩
 .simp(maxSteps:=999999)(disch:=omega) only[f84,eZ,b1,b2,jR y,ZH,qB,J,c1,jM o,jR o,e5,jM Y,a3,O,j1,j2,ne_eq,Z,not_true_eq_false,a8,a5,zPT 117 .nS x1.isCell x2.isCell rfl,b6,jM (up p6),bK (q2 j) (q2 P6) (by decide),a9,a6,zPT 117 .nS x3.isCell x4.isCell rfl,b7,e8,
   kW (jM (up a1) 2) (kK h2.row),bK (q2 j) (q2 P8) (by decide),kW rfl (kK x3),kW rfl (kK x4),e9,zJv _ o8.row.isCell o9.row.isCell,ey,ly]
 .simp only[if_true,zPq,hw];have NN:=P7.next
  exact⟨⟨w8,w9, .nS,rfl, .inl ((o8.mono p9 (fun _ _ x=>x)).mono sy (fun B z e=>by have:=f8 B z;omega)), .inl (o9.mono sy (fun B z e=>by have:=f9 B z;omega)), .inl (zRw ..)⟩,fun B z=>by
   rcases wO.1 z with H | H | H
   .have:=f8 B H;omega
   .have:=f9 B H;omega
   .exact(zRu.1 H).elim⟩
end Go.Eng.Sh
namespace Go.Bt
open Go.Nd (Str Kvs lookP putP delP Srt leafOf mayK rising)
open Go.Eng (ltS kB kN xK wX uH)
abbrev Bd:=Option Str
def zHX:Bd->Str->Prop
 | none,_=>True
 | some a,k=>a=k\/ltS a k=true
def zDn:Bd->Str->Prop
 | none,_=>True
 | some a,k=>ltS a k=true
def hiB:Bd->Str->Prop
 | none,_=>True
 | some b,k=>ltS k b=true
theorem zDn.low {b:Bd}{k:Str}(h:zDn b k):zHX b k:=by
 cases b with
 | none=>trivial
 | some a=>exact .inr h
theorem zAu {a b c:Str}(h:a=b\/ltS a b=true)(k:ltS b c=true):ltS a c=true:=by
 rcases h with rfl | h
 .exact k
 .exact kN h k
theorem bQ {a b c:Str}(h:ltS a b=true)(k:b=c\/ltS b c=true):ltS a c=true:=by
 rcases k with rfl | k
 .exact h
 .exact kN h k
theorem le_trans {a b c:Str}(h:a=b\/ltS a b=true)(k:b=c\/ltS b c=true):a=c\/ltS a c=true:=by
 rcases k with rfl | k
 .exact h
 .exact .inr (zAu h k)
theorem not_lt {a b:Str}(h: ¬ltS a b=true):b=a\/ltS b a=true:=by
 cases k:ltS b a with
 | true=>exact .inr rfl
 | false=>exact .inl (xK k (by simpa using h))
theorem zO5 {b:Bd}{k x:Str}(h:zHX b k)(f:ltS k x=true):zDn b x:=by
 cases b with
 | none=>trivial
 | some a=>exact zAu h f
theorem XA {b:Bd}{k x:Str}(h:zDn b k)(f:k=x\/ltS k x=true):zDn b x:=by
 cases b with
 | none=>trivial
 | some a=>exact bQ h f
theorem zEF {b:Bd}{k x:Str}(h:hiB b k)(f:x=k\/ltS x k=true):hiB b x:=by
 cases b with
 | none=>trivial
 | some a=>exact zAu f h
def Tr:Nat->Type
 | 0=>Kvs
 | h+1=>List Str×List (Tr h)
def con:(h:Nat)->Tr h->Kvs
 | 0,l=>l
 | h+1,t=>t.2.flatMap (con h)
def KB {α:Type}(W:Bd->Bd->α->Prop):Bd->List Str->List α->Bd->Prop
 | lo,[],[t],hi=>W lo hi t
 | lo,k::ks,t::ts,hi=>W lo (some k) t/\KB W (some k) ks ts hi
 | _,_,_,_=>False
def VO (lo:Bd)(ks:List Str):Nat->Bd
 | 0=>lo
 | i+1=>ks[i]?
def YG (ks:List Str)(hi:Bd)(i:Nat):Bd:=match ks[i]? with
 | some k=>some k
 | none=>hi
theorem XB (lo:Bd)(k:Str)(ks:List Str)(i:Nat):VO lo (k::ks) (i+1)=VO (some k) ks i:=by cases i<;>rfl
theorem XH (hi:Bd)(k:Str)(ks:List Str)(i:Nat):YG (k::ks) hi (i+1)=YG ks hi i:=rfl
theorem KB.len {α:Type}{W:Bd->Bd->α->Prop} : ∀ {ks:List Str} {ts:List α} {lo hi:Bd},KB W lo ks ts hi->ts.length=ks.length+1
 | [],[],_,_,h=>h.elim
 | [],[_],_,_,_=>rfl
 | [],_::_::_,_,_,h=>h.elim
 | _::_,[],_,_,h=>h.elim
 | _::ks,_::ts,_,_,h=>by simp[KB.len h.2]
theorem KB.at {α:Type}{W:Bd->Bd->α->Prop} : ∀ {ks:List Str} {ts:List α} {lo hi:Bd} {i:Nat} {t:α},KB W lo ks ts hi->ts[i]? =some t->W (VO lo ks i) (YG ks hi i) t
 | [],[],_,_,_,_,h,_=>h.elim
 | [],[a],_,_,0,t,h,ht=>by simp at ht;subst ht;exact h
 | [],[a],_,_,i+1,t,h,ht=>by simp at ht
 | [],_::_::_,_,_,_,_,h,_=>h.elim
 | _::_,[],_,_,_,_,h,_=>h.elim
 | k::ks,a::ts,_,_,0,t,h,ht=>by simp at ht;subst ht;exact h.1
 | k::ks,a::ts,_,_,i+1,t,h,ht=>by
  simp only[j7]at ht;rw[XB,XH];exact KB.at h.2 ht
theorem KB.mono {α:Type}{W f:Bd->Bd->α->Prop}(a: ∀lo hi t,W lo hi t->f lo hi t): ∀ {ks:List Str} {ts:List α} {lo hi:Bd},KB W lo ks ts hi->KB f lo ks ts hi
 | [],[],_,_,h=>h.elim
 | [],[_],_,_,h=>a _ _ _ h
 | [],_::_::_,_,_,h=>h.elim
 | _::_,[],_,_,h=>h.elim
 | _::ks,_::ts,_,_,h=>⟨a _ _ _ h.1,KB.mono a h.2⟩
theorem KB.app {α:Type}{W:Bd->Bd->α->Prop}{k:Str}{a:List Str}{f:List α}{hi:Bd}(j:KB W (some k) a f hi): ∀ {ks:List Str} {ts:List α} {lo:Bd},KB W lo ks ts (some k)->KB W lo (ks++(k::a)) (ts++f) hi
 | [],[],_,h=>h.elim
 | [],[_],_,h=>⟨h,j⟩
 | [],_::_::_,_,h=>h.elim
 | _::_,[],_,h=>h.elim
 | _::ks,_::ts,_,h=>⟨h.1,KB.app j h.2⟩
theorem KB.drop {α:Type}{W:Bd->Bd->α->Prop} : ∀ {ks:List Str} {ts:List α} {lo hi:Bd} {m:Nat} {k:Str},KB W lo ks ts hi->ks[m]? =some k->KB W (some k) (ks.drop (m+1)) (ts.drop (m+1)) hi
 | [],_,_,_,_,_,_,hk=>by simp at hk
 | _::_,[],_,_,_,_,h,_=>h.elim
 | a::ks,t::ts,_,_,0,k,h,hk=>by simp at hk;subst hk;exact h.2
 | a::ks,t::ts,_,_,m+1,k,h,hk=>by
  simp only[j7]at hk;have:=KB.drop (m:=m) h.2 hk;exact this
theorem KB.take {α:Type}{W:Bd->Bd->α->Prop} : ∀ {ks:List Str} {ts:List α} {lo hi:Bd} {m:Nat} {k:Str},KB W lo ks ts hi->ks[m]? =some k->KB W lo (ks.take m) (ts.take (m+1)) (some k)
 | [],_,_,_,_,_,_,hk=>by simp at hk
 | _::_,[],_,_,_,_,h,_=>h.elim
 | a::ks,t::ts,_,_,0,k,h,hk=>by simp at hk;subst hk;exact h.1
 | a::ks,t::ts,_,_,m+1,k,h,hk=>by
  simp only[j7]at hk;exact⟨h.1,KB.take h.2 hk⟩
theorem KB.head {α:Type}{W:Bd->Bd->α->Prop}{ks:List Str}{ts:List α}{j hi:Bd}{m:Nat}(h:KB W j ks ts hi)(hm:m<ts.length): ∀ {f:List Str} {ps:List α} {lo:Bd},KB W lo f ps (YG ks hi m)->KB W lo (f++ks.drop m) (ps++ts.drop (m+1)) hi
 | [],[],_,h=>h.elim
 | [],[p],lo,hp=>by
  have hl:=h.len;simp only[YG]at hp
  cases a:ks[m]? with
  | none=>
   rw[a]at hp;have:ks.length<=m:=by simpa using a
   rw[qO this,qO (by omega)];exact hp
  | some k=>
   rw[a]at hp;obtain⟨o,rfl⟩:=qR.1 a;rw[qI o];exact⟨hp,h.drop a⟩
 | [],_::_::_,_,h=>h.elim
 | _::_,[],_,h=>h.elim
 | _::f,_::ps,_,hp=>⟨hp.1,KB.head h hm hp.2⟩
theorem KB.splice {α:Type}{W:Bd->Bd->α->Prop}{a:List Str}{ps:List α} : ∀ {ks:List Str} {ts:List α} {lo hi:Bd} {i m:Nat},KB W lo ks ts hi->i+m<ts.length->KB W (VO lo ks i) a ps (YG ks hi (i+m))->KB W lo (ks.take i++a++ks.drop (i+m)) (ts.take i++ps++ts.drop (i+m+1)) hi
 | ks,ts,lo,hi,0,m,h,hm,hp=>by
  simp only[yZ,List.take_zero,qX]at hm hp⊢;exact KB.head h hm (lo:=lo) hp
 | [],ts,_,_,i+1,m,h,hm,_=>by have:=h.len;simp only[yG]at this;omega
 | _::_,[],_,_,_+1,_,h,_,_=>h.elim
 | k::ks,t::ts,lo,hi,i+1,m,h,hm,hp=>by
  have e:i+1+m=i+m+1:=by omega
  rw[e,XB,XH]at hp;rw[e];simp only[zT]at hm;have:=KB.splice (i:=i) (m:=m) h.2 (by omega) hp;simp only[List.take_succ_cons,List.drop_succ_cons,qF];exact⟨h.1,this⟩
def Lf (lo hi:Bd)(l:Kvs):Prop:=Srt l/\ ∀p∈l,zHX lo p.1/\hiB hi p.1/\mayK p.1=true/\p.2.length<=200
def wQ (l:Kvs):Nat:=Nd.size (leafOf l)
def wS (ks:List Str)(n:Nat):Nat:=2+16*n+sumL ks
def Inn {α:Type}(W:Bd->Bd->α->Prop)(lo hi:Bd)(t:List Str×List α):Prop:=(∀k∈t.1,mayK k=true/\zDn lo k/\hiB hi k)/\rising ltS t.1=true/\KB W lo t.1 t.2 hi
def wK:(h:Nat)->Tr h->Nat
 | 0,l=>wQ l
 | _+1,t=>wS t.1 t.2.length
def WF:(h:Nat)->Bd->Bd->Tr h->Prop
 | 0,lo,hi,l=>Lf lo hi l/\l≠[]/\wQ l<=500
 | h+1,lo,hi,t=>Inn (WF h) lo hi t/\t.1≠[]/\160<=wS t.1 t.2.length/\wS t.1 t.2.length<=500
def WR:(h:Nat)->Tr h->Prop
 | 0,l=>Lf none none l/\l≠[]/\wQ l<=500
 | h+1,t=>Inn (WF h) none none t/\t.1≠[]/\wS t.1 t.2.length<=500
def WX:(h:Nat)->Bd->Bd->Tr h->Prop
 | 0,lo,hi,l=>Lf lo hi l/\wQ l<=785
 | h+1,lo,hi,t=>Inn (WF h) lo hi t/\wS t.1 t.2.length<=785
theorem zCu {h:Nat}(a: ∀ {lo hi:Bd} {t:Tr h},WF h lo hi t-> ∀p∈con h t,zHX lo p.1/\hiB hi p.1): ∀ {ks:List Str} {ts:List (Tr h)} {lo hi:Bd},KB (WF h) lo ks ts hi->rising ltS ks=true->(∀k∈ks,zDn lo k/\hiB hi k)-> ∀p∈ts.flatMap (con h),zHX lo p.1/\hiB hi p.1
 | [],[],_,_,h,_,_=>h.elim
 | [],[t],lo,hi,hk,_,_=>fun p hp=>by
  simp only[qJ,List.flatMap_nil,yB]at hp;exact a hk p hp
 | [],_::_::_,_,_,h,_,_=>h.elim
 | _::_,[],_,_,h,_,_=>h.elim
 | k::ks,t::ts,lo,hi,hk,hr,hb=>fun p hp=>by
  have f:=hb k (zJ ..);rw[Nd.rising_cons]at hr;simp only[qJ,qA]at hp;rcases hp with hp | hp
  .have:=a hk.1 p hp;exact⟨this.1,zEF f.2 (.inr this.2)⟩
  .have:=zCu a hk.2 hr.2 (fun x j=>⟨hr.1 x j,(hb x (zC _ j)).2⟩) p hp;exact⟨(XA f.1 this.1).low,this.2⟩
theorem zCv: ∀(h:Nat) {lo hi:Bd} {t:Tr h},WF h lo hi t-> ∀p∈con h t,zHX lo p.1/\hiB hi p.1
 | 0,lo,hi,l,hw,p,hp=>⟨(hw.1.2 p hp).1,(hw.1.2 p hp).2.1⟩
 | h+1,lo,hi,t,hw,p,hp=>zCu (zCv h) hw.1.2.2 hw.1.2.1 (fun k a=>(hw.1.1 k a).2) p hp
theorem zD6 {a b:Kvs}(j:Srt a)(hb:Srt b)(h: ∀p∈a,∀q∈b,ltS p.1 q.1=true):Srt (a++b):=by
 induction a with
 | nil=>exact hb
 | cons p a ih=>
  obtain⟨k,v⟩:=p;refine⟨fun q f=> ?_,ih j.2 fun p hp=>h p (zC _ hp)⟩;rcases qA.1 f with f | f
  .exact j.1 q f
  .exact h _ (zJ ..) q f
theorem zGZ {h:Nat}(a: ∀ {lo hi:Bd} {t:Tr h},WF h lo hi t->Srt (con h t)): ∀ {ks:List Str} {ts:List (Tr h)} {lo hi:Bd},KB (WF h) lo ks ts hi->rising ltS ks=true->(∀k∈ks,zDn lo k/\hiB hi k)->Srt (ts.flatMap (con h))
 | [],[],_,_,h,_,_=>h.elim
 | [],[t],lo,hi,hk,_,_=>by
  simp only[qJ,List.flatMap_nil,yB];exact a hk
 | [],_::_::_,_,_,h,_,_=>h.elim
 | _::_,[],_,_,h,_,_=>h.elim
 | k::ks,t::ts,lo,hi,hk,hr,hb=>by
  rw[Nd.rising_cons]at hr;have f: ∀x∈ks,zDn (some k) x/\hiB hi x:=fun x j=>⟨hr.1 x j,(hb x (zC _ j)).2⟩
  simp only[qJ];refine zD6 (a hk.1) (zGZ a hk.2 hr.2 f) fun p hp q m=> ?_
  exact bQ (zCv h hk.1 p hp).2 (zCu (zCv h) hk.2 hr.2 f q m).1
theorem zJf: ∀(h:Nat) {lo hi:Bd} {t:Tr h},WF h lo hi t->Srt (con h t)
 | 0,_,_,_,hw=>hw.1.1
 | h+1,_,_,_,hw=>zGZ (zJf h) hw.1.2.2 hw.1.2.1 (fun k a=>(hw.1.1 k a).2)
def zOg {lo hi:Bd}{t:List Str×List (Tr k)}(a:Inn (WF k) lo hi t):Srt (t.2.flatMap (con k)):=
 zGZ (zJf k) a.2.2 a.2.1 (fun h f=>(a.1 h f).2)
theorem zPx {t:Tr k}(a:WR k t):Srt (con k t):=by
 cases k with
 | zero=>exact a.1.1
 | succ k=>exact zOg a.1
theorem zQT {lo hi:Bd}{t:Tr k}(a:WF k lo hi t): ∀p∈con k t,mayK p.1=true/\p.2.length<=200:=by
 induction k generalizing lo hi with
 | zero=>exact fun p hp=>(a.1.2 p hp).2.2
 | succ k ih=>
  intro p hp;obtain⟨t0,f,hp⟩:=List.mem_flatMap.1 hp;obtain⟨i,j,rfl⟩:=List.mem_iff_getElem.1 f;exact ih (KB.at a.1.2.2 (zQ j)) p hp
theorem zNO {k v:Str}{A C B:Kvs}(f: ∀p∈A,ltS p.1 k=true)(j: ∀p∈B,ltS k p.1=true):putP k v (A++C++B)=A++putP k v C++B:=by
 induction A with
 | nil=>
  simp only[qX]
  induction C with
  | nil=>
   cases B with
   | nil=>rfl
   | cons b B=>
    obtain⟨b,w⟩:=b;have h:=j (b,w) (zJ ..);simp only[qX,putP,qF];rw[if_neg (fun e=>uH h e.symm),if_neg (by rw[wX h];simp)]
  | cons c C ih=>
   obtain⟨c,w⟩:=c;simp only[qF,putP];split
   .rfl
   .split
    .rw[ih];rfl
    .rfl
 | cons a A ih=>
  obtain⟨a,w⟩:=a;have h:=f (a,w) (zJ ..);simp only[qF,putP];rw[if_neg (uH h),if_pos h,ih (fun p hp=>f p (zC _ hp))]
theorem zEz {k:Str}{A B:Kvs} :lookP k (A++B)=match lookP k A with | some v=>some v | none=>lookP k B:=by
 induction A with
 | nil=>rfl
 | cons a A ih=>
  obtain⟨a,w⟩:=a;simp only[qF,lookP];split
  .rfl
  .exact ih
theorem zKP {k:Str}{A C B:Kvs}(a: ∀p∈A,ltS p.1 k=true)(f: ∀p∈B,ltS k p.1=true):lookP k (A++C++B)=lookP k C:=by
 rw[zEz,zEz,Nd.look_none (l:=A) (fun p hp=>uH (a p hp)),Nd.look_none (l:=B) (fun p hp e=>uH (f p hp) e.symm)]
 cases lookP k C<;>rfl
theorem del_none {k:Str}{l:Kvs}(h: ∀p∈l,p.1≠k):delP k l=l:=by
 induction l with
 | nil=>rfl
 | cons a l ih=>
  obtain⟨a,w⟩:=a;rw[delP,if_neg (h (a,w) (zJ ..)),ih fun p hp=>h p (zC _ hp)]
theorem zJ5 {k:Str}{A C B:Kvs}(f: ∀p∈A,ltS p.1 k=true)(j: ∀p∈B,ltS k p.1=true):delP k (A++C++B)=A++delP k C++B:=by
 induction A with
 | nil=>
  simp only[qX]
  induction C with
  | nil=>exact del_none fun p hp e=>uH (j p hp) e.symm
  | cons c C ih=>
   obtain⟨c,w⟩:=c;simp only[qF,delP];split
   .rfl
   .rw[ih];rfl
 | cons a A ih=>
  obtain⟨a,w⟩:=a;have h:=f (a,w) (zJ ..);simp only[qF,delP];rw[if_neg (uH h),ih (fun p hp=>f p (zC _ hp))]
def xL (ks:List Str)(key:Str):Nat:=(ks.filter fun k=>ltS k key||decide (k=key)).length
def zB4 (ks:List Str)(key:Str):xL ks key<=ks.length:=List.length_filter_le _ _
theorem KY {a key:Str}{ks:List Str}(h:rising ltS (a::ks)=true):xL (a::ks) key=if ltS key a=true then 0 else xL ks key+1:=by
 rw[Nd.rising_cons]at h;by_cases f:ltS key a=true
 .rw[if_pos f,xL,List.length_eq_zero_iff,List.filter_eq_nil_iff];intro x o j;have m:ltS key x=true:=by
   rcases zK.1 o with rfl | o
   .exact f
   .exact kN f (h.1 x o)
  simp only[j6,zR]at j;rcases j with j | rfl
  .rw[wX j]at m;cases m
  .rw[kB]at m;cases m
 .rw[if_neg f,xL,List.filter_cons];have:(ltS a key||decide (a=key))=true:=by
   simp only[j6,zR];rcases not_lt f with e | e
   .exact .inr e
   .exact .inl e
  rw[this];rfl
theorem zA4 {key:Str} : ∀ {ks:List Str} {lo:Bd},rising ltS ks=true->zHX lo key->zHX (VO lo ks (xL ks key)) key
 | [],_,_,h=>h
 | a::ks,lo,hr,h=>by
  rw[KY hr];by_cases f:ltS key a=true
  .rw[if_pos f];exact h
  .rw[if_neg f,XB];rw[Nd.rising_cons]at hr;exact zA4 hr.2 (not_lt f)
theorem zA5 {key:Str} : ∀ {ks:List Str} {hi:Bd},rising ltS ks=true->hiB hi key->hiB (YG ks hi (xL ks key)) key
 | [],_,_,h=>h
 | a::ks,hi,hr,h=>by
  rw[KY hr];by_cases f:ltS key a=true
  .rw[if_pos f];exact f
  .rw[if_neg f,XH];rw[Nd.rising_cons]at hr;exact zA5 hr.2 h
theorem zCZ {lo hi:Bd}{key:Str}{ks:List Str}{ts:List (Tr k)}(t:Inn (WF k) lo hi (ks,ts)):
  (∀p∈(ts.take (xL ks key)).flatMap (con k),ltS p.1 key=true)/\ ∀p∈(ts.drop (xL ks key+1)).flatMap (con k),ltS key p.1=true:=by
 obtain⟨u,f,q⟩:=t;simp only at u f q;have z:=zB4 ks key;have K:=q.len;constructor
 .have hl:=zA4 (lo:=none) f (key:=key) trivial
  cases t:xL ks key with
  | zero=>intro p hp;simp at hp
  | succ w=>
   rw[t]at hl z;have o:w<ks.length:=by omega
   simp only[VO,zQ o]at hl;have m:=q.take (zQ o);have hr:rising ltS (ks.take w)=true:=Nd.rising_take f w;intro p hp;have hm: ∀x∈ks.take w,ltS x ks[w]=true:=fun x a=>by
    obtain⟨j,J,rfl⟩:=List.mem_iff_getElem.1 a;simp only[qC]at J;rw[List.getElem_take];have hd:=Nd.rising_drop f j;rw[qI (by omega),Nd.rising_cons]at hd;refine hd.1 _ ?_;rw[List.mem_iff_getElem];exact⟨w - (j+1),by simp;omega,by rw[List.getElem_drop];congr 1;omega⟩
   have:=zCu (zCv k) m hr (fun x a=>⟨(u x (List.mem_of_mem_take a)).2.1,hm x a⟩) p hp;exact bQ this.2 hl
 .have y:=zA5 (hi:=none) f (key:=key) trivial;intro p hp
  cases m:ks[xL ks key]? with
  | none=>
   have:ks.length<=xL ks key:=by simpa using m
   rw[qO (by omega)]at hp;simp at hp
  | some h=>
   simp only[YG,m]at y;obtain⟨o,rfl⟩:=qR.1 m;have C:=q.drop m;have hd:=Nd.rising_drop f (xL ks key);rw[qI o,Nd.rising_cons]at hd;have:=zCu (zCv k) C hd.2 (fun x a=>⟨hd.1 x a,(u x (List.mem_of_mem_drop a)).2.2⟩) p hp;exact bQ y this.1
theorem zE8 {α:Type}{ts:List α}{t:α}(h:ts[k]? =some t):ts=ts.take k++[t]++ts.drop (k+1):=by
 obtain⟨hi,rfl⟩:=qR.1 h;rw[zZ,List.singleton_append,<-qI hi,y6]
theorem bE {a b:List Str} :rising ltS (a++b)=true↔rising ltS a=true/\rising ltS b=true/\ ∀x∈a,∀y∈b,ltS x y=true:=by
 induction a with
 | nil=>simp[rising]
 | cons c a ih=>
  rw[qF,Nd.rising_cons,Nd.rising_cons,ih];simp only[qA,zK];constructor
  .rintro⟨h1,h2,h3,h4⟩
   refine⟨⟨fun x f=>h1 x (.inl f),h2⟩,h3,fun x f y h=> ?_⟩;rcases f with rfl | f
   .exact h1 y (.inr h)
   .exact h4 x f y h
  .rintro⟨⟨h1,h2⟩,h3,h4⟩
   exact⟨fun x f=>f.elim (h1 x) (h4 c (.inl rfl) x),h2,h3,fun x f y h=>h4 x (.inr f) y h⟩
theorem Inn.splice {α:Type}{W:Bd->Bd->α->Prop}{lo hi:Bd}{ks K:List Str}{ts ps:List α}{i m:Nat}(h:Inn W lo hi (ks,ts))(hm:i+m<ts.length)(hp:Inn W (VO lo ks i) (YG ks hi (i+m)) (K,ps)):
  Inn W lo hi (ks.take i++K++ks.drop (i+m),ts.take i++ps++ts.drop (i+m+1)):=by
 obtain⟨J,u,N⟩:=h;obtain⟨C,S,T⟩:=hp;simp only at J u N C S T;have a3:=N.len;have Y: ∀x∈ks.take i,∀y∈K,ltS x y=true:=fun x a y O=>by
  have t:=(C y O).2.1
  cases i with
  | zero=>simp at a
  | succ j=>
   have f:j<ks.length:=by omega
   simp only[VO,zQ f]at t;rw[qM f,qA,qS]at a;rcases a with a | rfl
   .have:=Nd.rising_take u (j+1);rw[qM f,bE]at this;exact kN (this.2.2 x a _ (List.mem_singleton_self _)) t
   .exact t
 have Z: ∀y∈K,∀z∈ks.drop (i+m),ltS y z=true:=fun y O z o=>by
  have t:=(C y O).2.2;by_cases f:i+m<ks.length
  .simp only[YG,zQ f]at t;have hd:=Nd.rising_drop u (i+m);rw[qI f]at o hd;rw[Nd.rising_cons]at hd;rcases zK.1 o with rfl | o
   .exact t
   .exact kN t (hd.1 z o)
  .rw[qO (by omega)]at o;simp at o
 have a0: ∀x∈ks.take i,∀z∈ks.drop (i+m),ltS x z=true:=fun x a z o=>by
  have:ks=ks.take (i+m)++ks.drop (i+m):=(y6 _ _).symm;rw[this,bE]at u;refine u.2.2 x ?_ z o;have:ks.take i=(ks.take (i+m)).take i:=by rw[List.take_take,Nat.min_eq_left (by omega)]
  rw[this]at a;exact List.mem_of_mem_take a
 have a1: ∀s,zDn (VO lo ks i) s->zDn lo s:=fun s q=>by
  cases i with
  | zero=>exact q
  | succ j=>
   have f:j<ks.length:=by omega
   simp only[VO,zQ f]at q;exact XA (J _ (yM f)).2.1 (.inr q)
 have a2: ∀s,hiB (YG ks hi (i+m)) s->hiB hi s:=fun s q=>by
  by_cases f:i+m<ks.length
  .simp only[YG,zQ f]at q;exact zEF (J _ (yM f)).2.2 (.inr q)
  .simp only[YG,List.getElem?_eq_none (show ks.length<=i+m by omega)]at q;exact q
 refine⟨fun k p=> ?_, ?_,KB.splice N hm T⟩
 .simp only[qA]at p;rcases p with(p | p) | p
  .exact J k (List.mem_of_mem_take p)
  .exact⟨(C k p).1,a1 k (C k p).2.1,a2 k (C k p).2.2⟩
  .exact J k (List.mem_of_mem_drop p)
 .rw[bE,bE];refine⟨⟨Nd.rising_take u i,S,Y⟩,Nd.rising_drop u _,fun x a z o=> ?_⟩;rcases qA.1 a with a | a
  .exact a0 x a z o
  .exact Z x a z o
def Gen:(h:Nat)->Bd->Bd->Tr h->Prop
 | 0,lo,hi,l=>Lf lo hi l
 | h+1,lo,hi,t=>Inn (WF h) lo hi t
def Full:(h:Nat)->Tr h->Prop
 | 0,l=>l≠[]
 | _+1,t=>160<=wS t.1 t.2.length
theorem WF.gen: ∀ {h:Nat} {lo hi:Bd} {t:Tr h},WF h lo hi t->Gen h lo hi t
 | 0,_,_,_,w=>w.1
 | _+1,_,_,_,w=>w.1
theorem WX.gen: ∀ {h:Nat} {lo hi:Bd} {t:Tr h},WX h lo hi t->Gen h lo hi t
 | 0,_,_,_,w=>w.1
 | _+1,_,_,_,w=>w.1
theorem WF.full: ∀ {h:Nat} {lo hi:Bd} {t:Tr h},WF h lo hi t->Full h t
 | 0,_,_,_,w=>w.2.1
 | _+1,_,_,_,w=>w.2.2.1
theorem WF.sz: ∀ {h:Nat} {lo hi:Bd} {t:Tr h},WF h lo hi t->wK h t<=500
 | 0,_,_,_,w=>w.2.2
 | _+1,_,_,_,w=>w.2.2.2
theorem WX.sz: ∀ {h:Nat} {lo hi:Bd} {t:Tr h},WX h lo hi t->wK h t<=785
 | 0,_,_,_,w=>w.2
 | _+1,_,_,_,w=>w.2
theorem Gen.wx: ∀ {h:Nat} {lo hi:Bd} {t:Tr h},Gen h lo hi t->wK h t<=785->WX h lo hi t
 | 0,_,_,_,w,s=>⟨w,s⟩
 | _+1,_,_,_,w,s=>⟨w,s⟩
theorem Gen.wf: ∀ {h:Nat} {lo hi:Bd} {t:Tr h},Gen h lo hi t->Full h t->wK h t<=500->WF h lo hi t
 | 0,_,_,_,w,f,s=>⟨w,f,s⟩
 | h+1,_,_,t,w,f,s=>⟨w,fun e=>by
  have hl:=w.2.2.len;have a:160<=wS t.1 t.2.length:=f;rw[hl,e]at a;simp[wS,sumL]at a,f,s⟩
def QV:(h:Nat)->Tr h->Str->Tr h->Tr h
 | 0,a,_,b=>List.append a b
 | _+1,a,s,b=>(a.1++([s]++b.1),a.2++b.2)
theorem zF9: ∀(h:Nat) (a:Tr h) (s:Str) (b:Tr h),con h (QV h a s b)=con h a++con h b
 | 0,_,_,_=>rfl
 | h+1,a,s,b=>by simp[con,QV]
theorem X9 (a b:Kvs):wQ (a++b)+2=wQ a+wQ b:=by
 simp only[wQ,leafOf,Nd.size,List.map_append,Nd.sumL_append,yG];omega
theorem sumL_nil:sumL []=0:=rfl
theorem XF (h:Nat)(a:Tr h)(s:Str)(b:Tr h)(f:s.length<=40):wK h (QV h a s b)<=wK h a+wK h b+39/\wK h b<=wK h (QV h a s b)/\wK h a<=wK h (QV h a s b):=by
 cases h with
 | zero=>
  have key: ∀a b:Kvs,wQ (a++b)<=wQ a+wQ b+39/\wQ b<=wQ (a++b)/\wQ a<=wQ (a++b):=fun a b=>by
   have:=X9 a b;have j:2<=wQ a:=by simp only[wQ,Nd.size];omega
   have m:2<=wQ b:=by simp only[wQ,Nd.size];omega
   omega
  exact key a b
 | succ h=>
  simp only[wK,QV,wS,zV,Nd.sumL_append,Nd.sumL_cons,sumL_nil];omega
theorem zED {lo hi:Bd}{s:Str}{a b:Tr k}(z:Gen k lo (some s) a)(hb:Gen k (some s) hi b)(o:mayK s=true/\zDn lo s/\hiB hi s):Gen k lo hi (QV k a s b):=by
 cases k with
 | zero=>
  obtain⟨j,m⟩:=z;obtain⟨b1,b2⟩:=hb;refine⟨zD6 j b1 fun p hp q C=>bQ (m p hp).2.1 (b2 q C).1,fun p hp=> ?_⟩;rcases qA.1 hp with hp | hp
  .exact⟨(m p hp).1,zEF o.2.2 (.inr (m p hp).2.1),(m p hp).2.2⟩
  .exact⟨(XA o.2.1 (b2 p hp).1).low,(b2 p hp).2.1,(b2 p hp).2.2⟩
 | succ k=>
  obtain⟨j,m,J⟩:=z;obtain⟨b1,b2,K⟩:=hb;refine⟨fun h f=> ?_, ?_,KB.app K J⟩
  .simp only[QV,qA,qS]at f;rcases f with f | rfl | f
   .exact⟨(j h f).1,(j h f).2.1,zEF o.2.2 (.inr (j h f).2.2)⟩
   .exact o
   .exact⟨(b1 h f).1,XA o.2.1 (.inr (b1 h f).2.1),(b1 h f).2.2⟩
  .simp only[QV];rw[bE,List.singleton_append,Nd.rising_cons];refine⟨m,⟨fun x t=>(b1 x t).2.1,b2⟩,fun x t y u=> ?_⟩;rcases zK.1 u with rfl | u
   .exact(j x t).2.2
   .exact kN (j x t).2.2 (b1 y u).2.1
theorem ZJ {a b:Kvs} :Srt (a++b)↔Srt a/\Srt b/\ ∀p∈a,∀q∈b,ltS p.1 q.1=true:=by
 induction a with
 | nil=>simp[Srt]
 | cons c a ih=>
  obtain⟨c,w⟩:=c;rw[qF,Srt,Srt,ih];simp only[qA,zK];constructor
  .rintro⟨h1,h2,h3,h4⟩
   refine⟨⟨fun x f=>h1 x (.inl f),h2⟩,h3,fun x f y h=> ?_⟩;rcases f with rfl | f
   .exact h1 y (.inr h)
   .exact h4 x f y h
  .rintro⟨⟨h1,h2⟩,h3,h4⟩
   exact⟨fun x f=>f.elim (h1 x) (h4 _ (.inl rfl) x),h2,h3,fun x f y h=>h4 x (.inr f) y h⟩
def psz:(h:Nat)->Tr h->Nat->Nat
 | 0,l,k=>wQ (List.take (α:=Str×Str) k l)
 | _+1,t,k=>wS (t.1.take k) (k+1)
def VV:(h:Nat)->Tr h->Nat
 | 0,l=>List.length (α:=Str×Str) l
 | _+1,t=>t.1.length
def zRc (h:Nat)(t:Tr h)(k:Nat):Prop:=
 1<=k/\k+min (h+1) 2<=VV h t/\(k=1\/psz h t k<=(wK h t - 2) / 2+2)/\(k+min (h+1) 2=VV h t\/(wK h t - 2) / 2+2<psz h t (k+1))
def zPv:(h:Nat)->Tr h->Tr h->Str->Tr h->Prop
 | 0,l,a,s,b=> ∃k,zRc 0 l k/\a=List.take (α:=Str×Str) k l/\s=(List.map Prod.fst (l:Kvs)).getD k []/\b=List.drop (α:=Str×Str) k l
 | h+1,t,a,s,b=> ∃k,zRc (h+1) t k/\a=(t.1.take k,t.2.take (k+1))/\s=t.1.getD k []/\b=(t.1.drop (k+1),t.2.drop (k+1))
theorem xW (p:Str×Str)(l:Kvs):wQ (p::l)=wQ l+(2+p.1.length+p.2.length):=by
 simp only[wQ,leafOf,Nd.size,yJ,Nd.sumL_cons,yG];omega
theorem cJ:wQ []=2:=rfl
theorem zDE {p:Str×Str}(h:mayK p.1=true/\p.2.length<=200):2+p.1.length+p.2.length<=242:=by
 obtain⟨a,f⟩:=h;simp only[mayK,zE,zR]at a;omega
theorem zLk {lo hi:Bd}{l a b:Kvs}{s:Str}(J:Lf lo hi l)(S:wQ l<=785)(hb:500<wQ l)(K:zPv 0 l a s b):
  Lf lo (some s) a/\Lf (some s) hi b/\(mayK s=true/\zDn lo s/\hiB hi s)/\a++b=l/\a≠[]/\b≠[]/\wQ a<=500/\wQ b<=wQ l - (wQ l - 2) / 2+241:=by
 obtain⟨k,⟨k1,k2,k3,k4⟩,rfl,rfl,rfl⟩:=K;simp only[VV,psz,wK,yZ,show min 1 2=1 from rfl]at k2 k3 k4;have h:k<l.length:=k2;have m:l.take k++l.drop k=l:=y6 _ _;obtain⟨N,f⟩:=J;have t:=N;rw[<-m,ZJ]at t;obtain⟨O,o,u⟩:=t;have hd:l.drop k=l[k]::l.drop (k+1):=qI h;have z:(l.map Prod.fst).getD k []=(l[k]).1:=by
  rw[qK,jK,zQ h];rfl
 rw[z];have hm:l[k]∈l:=yM h;have q:0<l.length:=by omega
 have j:l[0]∈l.take k:=by rw[List.mem_iff_getElem];exact⟨0,by simp;omega,by simp⟩
 have x:ltS (l[0]).1 (l[k]).1=true:=u _ j _ (by rw[hd];exact zJ ..);have y:=X9 (l.take k) (l.drop k);rw[m]at y;have T:=zDE (f _ hm).2.2;have C:wQ (l.take (k+1))=wQ (l.take k)+(2+(l[k]).1.length+(l[k]).2.length):=by
  rw[qM h];have:=X9 (l.take k) [l[k]];rw[xW,cJ]at this;omega
 refine⟨⟨O,fun p hp=> ?_⟩,⟨o,fun p hp=> ?_⟩,⟨(f _ hm).2.2.1,zO5 (f _ (yM q)).1 x,(f _ hm).2.1⟩,m, ?_, ?_, ?_, ?_⟩
 .exact⟨(f p (List.mem_of_mem_take hp)).1,u p hp _ (by rw[hd];exact zJ ..),(f p (List.mem_of_mem_take hp)).2.2⟩
 .refine⟨?_,(f p (List.mem_of_mem_drop hp)).2⟩;rw[hd]at hp o;rcases zK.1 hp with rfl | hp
  .exact .inl rfl
  .exact .inr (o.1 p hp)
 .intro e;rw[e]at j;simp at j
 .rw[hd];exact List.cons_ne_nil _ _
 .rcases k3 with rfl | k3
  .have Y:wQ (l.take 1)<=244:=by
    have:=zDE (f _ (yM q)).2.2
    match l,q with
    | p::l,_=>simp only[List.take_succ_cons,List.take_zero,xW,cJ];simp only[List.getElem_cons_zero]at this;omega
   omega
  .omega
 .rcases k4 with k4 | k4
  .have:l.drop (k+1)=[]:=qO (by omega);rw[hd,this,xW,cJ];omega
  .rw[C]at k4;omega
theorem zBe (ks:List Str){k:Nat}(h:k<ks.length):sumL (ks.take (k+1))=sumL (ks.take k)+(1+(ks[k]).length):=by
 rw[qM h,Nd.sumL_append,Nd.sumL_cons,sumL_nil];omega
theorem UR {s:Str}(h:mayK s=true):s.length<=40:=by
 simp only[mayK,zE,zR]at h;omega
theorem zJb {lo hi:Bd}{t a b:Tr (w+1)}{s:Str}(Y:Inn (WF w) lo hi t)(q:wS t.1 t.2.length<=785)(hb:500<wS t.1 t.2.length)(Z:zPv (w+1) t a s b):
  Inn (WF w) lo (some s) a/\Inn (WF w) (some s) hi b/\(mayK s=true/\zDn lo s/\hiB hi s)/\con (w+1) a++con (w+1) b=con (w+1) t/\160<=wS a.1 a.2.length/\160<=wS b.1 b.2.length/\wS a.1 a.2.length<=500/\wS b.1 b.2.length<=500/\wS b.1 b.2.length<=wS t.1 t.2.length - (wS t.1 t.2.length - 2) / 2+57:=by
 obtain⟨k,⟨k1,k2,k3,k4⟩,rfl,rfl,rfl⟩:=Z;obtain⟨ks,ts⟩:=t;obtain⟨f,z,o⟩:=Y;have N:min (w+1+1) 2=2:=by omega
 simp only[VV,psz,wK,N]at k2 k3 k4 f z o q hb⊢;have m:k<ks.length:=by omega
 have K:=o.len;have O:ks.getD k []=ks[k]:=by rw[qK,zQ m];rfl
 rw[O];have C:=zQ m;have hm:ks[k]∈ks:=yM m;have J:ks.take k++ks[k]::ks.drop (k+1)=ks:=by rw[<-qI m,y6]
 have hr:=z;rw[<-J,bE,Nd.rising_cons]at hr;obtain⟨ra,⟨rb,S⟩,T⟩:=hr;have a0:sumL ks=sumL (ks.take k)+(1+(ks[k]).length+sumL (ks.drop (k+1))):=by
  conv=>lhs;rw[<-J]
  rw[Nd.sumL_append,Nd.sumL_cons]
 have ek:=UR (f _ hm).1;have tk:=zBe ks m;have l1:(ts.take (k+1)).length=k+1:=by rw[qC];omega
 have l2:(ts.drop (k+1)).length=ks.length - k:=by rw[qL];omega
 rw[l1,l2];have y:k+1<ks.length:=by omega
 have a1:=UR (f _ (yM y)).1;have a2:sumL (ks.drop (k+1))=1+(ks[k+1]).length+sumL (ks.drop (k+2)):=by rw[qI y,Nd.sumL_cons]
 have u:k=1->sumL (ks.take k)<=41:=fun e=>by
  subst e;have:=zBe ks (k:=0) (by omega);have e0:=UR (f _ (yM (show 0<ks.length by omega))).1;rw[this];simp only[List.take_zero,sumL_nil];omega
 have p:k+2=ks.length->sumL (ks.drop (k+2))=0:=fun e=>by rw[e,List.drop_length];rfl
 simp only[wS]at k3 k4 q hb⊢;rw[tk]at k4;rw[K]at q hb k3 k4;refine⟨⟨fun x j=>⟨(f x (List.mem_of_mem_take j)).1,(f x (List.mem_of_mem_take j)).2.1,T x j _ (zJ ..)⟩,ra,o.take C⟩,⟨fun x j=>⟨(f x (List.mem_of_mem_drop j)).1,rb x j,(f x (List.mem_of_mem_drop j)).2.2⟩,S,o.drop C⟩,f _ hm, ?_, ?_, ?_, ?_, ?_, ?_⟩
 .simp only[con,<-yV,y6]
 .rcases k4 with k4 | k4
  .have:=p k4;omega
  .omega
 .rcases k3 with rfl | k3
  .have:=u rfl;omega
  .omega
 .rcases k3 with rfl | k3
  .have:=u rfl;omega
  .omega
 .rcases k4 with k4 | k4
  .have:=p k4;omega
  .omega
 .rcases k4 with k4 | k4
  .have:=p k4;omega
  .omega
inductive Cuts (h:Nat):Tr h->List (Tr h)->List Str->Prop
 | one {t:Tr h} :wK h t<=500->Cuts h t [t] []
 | more {t a b:Tr h} {s:Str} {ps:List (Tr h)} {ss:List Str} :500<wK h t->zPv h t a s b->Cuts h b ps ss->Cuts h t (a::ps) (s::ss)
theorem zJc {lo hi:Bd}{t a b:Tr k}{s:Str}(f:WX k lo hi t)(hb:500<wK k t)(q:zPv k t a s b):
  WF k lo (some s) a/\WX k (some s) hi b/\Full k b/\(mayK s=true/\zDn lo s/\hiB hi s)/\con k a++con k b=con k t/\wK k b<=wK k t - (wK k t - 2) / 2+241:=by
 cases k with
 | zero=>
  obtain⟨j,b1,m,e,o,nb,p,u⟩:=zLk f.1 f.2 hb q;have x:=f.2;simp only[wK]at hb⊢;exact⟨⟨j,o,p⟩,⟨b1,by omega⟩,nb,m,e,u⟩
 | succ k=>
  obtain⟨j,b1,m,e,o,nb,p,_,u⟩:=zJb f.1 f.2 hb q;have x:=f.2;simp only[wK]at hb⊢;exact⟨Gen.wf (h:=k+1) j o p,⟨b1,by omega⟩,nb,m,e,by omega⟩
theorem zAN {t:Tr k}{ps:List (Tr k)}{q:List Str}(u:Cuts k t ps q): ∀ {lo hi:Bd},WX k lo hi t->(Full k t\/500<wK k t)->
  Inn (WF k) lo hi (q,ps)/\ps.flatMap (con k)=con k t/\ps.length<=6/\(wK k t<=635->ps.length<=5)/\(wK k t<=560->ps.length<=4)/\(wK k t<=522->ps.length<=3)/\(wK k t<=503->ps.length<=2)/\(wK k t<=500->ps.length<=1):=by
 induction u with
 | one m=>
  intro lo hi o p;rcases p with p | p
  .refine⟨⟨by simp,rfl,o.gen.wf p m⟩,by simp,by simp, ?_⟩;simp
  .omega
 | @more t a b s ps q hb u _ ih=>
  intro lo hi o _;obtain⟨J,K,N,m,e,z⟩:=zJc o hb u;obtain⟨⟨f,y,C⟩,O,T⟩:=ih K (.inl N);have Y:=o.sz;simp only at f y C;refine⟨⟨fun h j=> ?_, ?_,J,C⟩, ?_, ?_⟩
  .rcases zK.1 j with rfl | j
   .exact m
   .exact⟨(f h j).1,XA m.2.1 (.inr (f h j).2.1),(f h j).2.2⟩
  .rw[Nd.rising_cons];exact⟨fun x S=>(f x S).2.1,y⟩
  .rw[qJ,O,e]
  .simp only[zT];omega
theorem YM {ks:List Str}(h: ∀k∈ks,mayK k=true):sumL ks<=41*ks.length:=by
 induction ks with
 | nil=>simp[sumL]
 | cons k ks ih=>
  have:=UR (h k (zJ ..));have:=ih fun x a=>h x (zC _ a)
  rw[Nd.sumL_cons,zT];omega
theorem zKE {lo hi:Bd}{ks a:List Str}{ts ps:List (Tr k)}{x:Tr k}(f:Inn (WF k) lo hi (ks,ts))(hm:w+t<ts.length)(j:WX k (VO lo ks w) (YG ks hi (w+t)) x)(o:Full k x)(p:Cuts k x ps a):
  Inn (WF k) lo hi (ks.take w++a++ks.drop (w+t),ts.take w++ps++ts.drop (w+t+1))/\
  con (k+1) (ks.take w++a++ks.drop (w+t),ts.take w++ps++ts.drop (w+t+1))=(ts.take w).flatMap (con k)++con k x++(ts.drop (w+t+1)).flatMap (con k)/\
  wS (ks.take w++a++ks.drop (w+t)) (ts.take w++ps++ts.drop (w+t+1)).length<=wS ks ts.length+285/\ks.length<=(ks.take w++a++ks.drop (w+t)).length+t:=by
 obtain⟨c1,c2,c3,_⟩:=zAN p j (.inl o);have l1:=f.2.2.len;have q:=c1.2.2.len;simp only at l1 q;refine⟨f.splice hm c1, ?_, ?_, ?_⟩
 .simp only[con,yV,c2]
 .have i:=YM fun h u=>(c1.1 h u).1
  simp only at i;have e:sumL (ks.take w)+sumL (ks.drop (w+t))<=sumL ks:=by
   have y:sumL ks=sumL (ks.take w)+sumL (ks.drop w):=by rw[<-Nd.sumL_append,y6]
   have z:sumL (ks.drop w)=sumL ((ks.drop w).take t)+sumL (ks.drop (w+t)):=by rw[<-List.drop_drop,<-Nd.sumL_append,y6]
   omega
  simp only[wS,zV,qC,qL,Nd.sumL_append];omega
 .simp only[zV,qC,qL];omega
theorem zC7 {a b:Tr k}{s:Str}(j:s.length<=40)(f:Full k a\/Full k b):Full k (QV k a s b):=by
 cases k with
 | zero=>
  intro e;have e:List.append (α:=Str×Str) a b=[]:=e;rcases f with f | f
  .exact f (List.append_eq_nil_iff.1 e).1
  .exact f (List.append_eq_nil_iff.1 e).2
 | succ k=>
  have:=XF (k+1) a s b j;simp only[wK]at this;show 160<=wS _ _;rcases f with f | f
  .have f:160<=wS a.1 a.2.length:=f;omega
  .have f:160<=wS b.1 b.2.length:=f;omega
theorem X3 {lo hi:Bd}{t:Tr (k+1)}(a:WF (k+1) lo hi t):3<=t.1.length:=by
 obtain⟨⟨f,_,j⟩,_,m,_⟩:=a;have hl:=j.len;have:=YM fun h o=>(f h o).1
 simp only[wS]at m;omega
theorem zKQ {lo hi:Bd}{l:Kvs}{k v:Str}(f:Lf lo hi l)(hl:zHX lo k)(m:hiB hi k)(h:mayK k=true)(j:v.length<=200):Lf lo hi (putP k v l)/\wQ (putP k v l)<=wQ l+242:=by
 refine⟨⟨Nd.srt_put _ _ f.1,fun p hp=> ?_⟩, ?_⟩
 .rcases Nd.mem_put hp with rfl | hp
  .exact⟨hl,m,h,j⟩
  .exact f.2 p hp
 .have o:=zDE (p:=(k,v)) ⟨h,j⟩;simp only at o;clear f
  induction l with
  | nil=>simp only[putP,xW,cJ];omega
  | cons a l ih=>
   obtain⟨a,b⟩:=a;simp only[putP];split
   .simp only[xW];omega
   .split
    .simp only[xW];omega
    .simp only[xW];omega
theorem zKR {lo hi:Bd}{l:Kvs}(k:Str)(f:Lf lo hi l):Lf lo hi (delP k l)/\wQ (delP k l)<=wQ l:=by
 refine⟨⟨Nd.srt_del _ f.1,fun p hp=>f.2 p (Nd.mem_del hp)⟩, ?_⟩;clear f
 induction l with
 | nil=>exact zM _
 | cons a l ih=>
  obtain⟨a,b⟩:=a;simp only[delP];split
  .simp only[xW];omega
  .simp only[xW];omega
end Go.Bt
namespace Go.Ex
open Go.Nd (Str)
def over (b:Str)(f:Nat)(s:Str):Str:=b.take f++s++b.drop (f+s.length)
end Go.Ex
namespace Go.Bk
open Go.Nd (Str)
def zPK (u:Nat):Str->Nat
 | []=>u
 | b::l=>zPK (Nat.xor u b.toNat*1099511628211 % 18446744073709551616) l
theorem zAd: ∀(s:Str) (u:Nat),u<18446744073709551616->zPK u s<18446744073709551616
 | [],_,h=>h
 | _::l,_,_=>zAd l _ (Nat.mod_lt _ (by omega))
theorem zBg: ∀(s:Str) (b:UInt8) (u:Nat),zPK u (s++[b])=Nat.xor (zPK u s) b.toNat*1099511628211 % 18446744073709551616
 | [],_,_=>rfl
 | _::l,b,_=>zBg l b _
def U7 (s:Str):Nat:=zPK 14695981039346656037 s
def zNo (s:Str):U7 s<18446744073709551616:=zAd _ _ (by omega)
def uB:Str:=[106,116,116,121]
def zAD (kind:UInt8)(birth:Nat)(n:Nat):Str:=uB++([kind,0]++(be 2 n++be 4 birth))
def sealB (kind:UInt8)(birth:Nat)(body:Str):Str:=zAD kind birth body.length++(body++List.replicate (500 - body.length) 0)
theorem XI (kind:UInt8)(birth n:Nat):(zAD kind birth n).length=12:=by simp[zAD,uB,Nd.be_length]
theorem sealB_len {kind:UInt8}{birth:Nat}{body:Str}(h:body.length<=500):(sealB kind birth body).length=512:=by
 simp[sealB,XI];omega
end Go.Bk
namespace Go.Eng
open Go.Nd (Str)
theorem zE2: ∀(n:Nat) (l:List AV),n<=l.length->takeN n l=some (l.take n)
 | 0,_,_=>rfl
 | n+1,[],h=>by simp at h
 | n+1,a::l,h=>by
  have f:=zE2 n l (by simpa using h);simp only[takeN,f,List.take_succ_cons]
theorem zQS {off m cc:Nat}{b s:Str}(H:h.h.get k=some (.cells (jO b) w 1 N))(a:h.ok)(hm:off+m<=b.length):
  ∃H',cpy 1 (.slice k off m cc) (S s) h=some (.int .i64 (min s.length m:Nat),H')/\H'.h.get k=some (.cells (jO (Ex.over b off (s.take (min s.length m)))) w 1 N)/\Stp (fun B=>B=k) h H':=by
 obtain⟨n,j⟩: ∃n,n=min s.length m:=⟨_,rfl⟩;rw[<-j];have p:n<=s.length:=by omega
 have o:Nat.min s.length m=n:=j.symm;have t:takeN (n*1) (jO s)=some (jO (s.take n)):=by
  rw[Nat.mul_one,zE2 _ _ (by rw[jT];exact p),jO,jO,List.map_take]
 have u:jP (jO (s.take n))=true:=by
  rw[wJ];intro x y;obtain⟨b,_,rfl⟩:=qZ.1 y;rfl
 have z:setAt (jO b) off (jO (s.take n))=some (jO (Ex.over b off (s.take n))):=by
  have hl:(s.take n).length=n:=by rw[qC];omega
  rw[xI (by rw[jT,jT,hl];omega)];have q:(jO (s.take n)).length=n:=by rw[jT,hl]
  rw[q,Ex.over,hl];simp only[jO,List.map_append,List.map_drop];rw[List.map_take (f:=fun c:UInt8=>AV.int .u8 c.toNat) (l:=b) (i:=off)]
 refine⟨_, ?_, ?_,(zRo a).put (a.lt H) (.cells (jO (Ex.over b off (s.take n))) w 1 N) (.inr rfl)⟩
 .simp only[cpy,zD7,o,t,u,zP,H,show Nat.blt 0 1=true from rfl,z,kT,kF];rfl
 .rw[zRk,if_pos rfl]
theorem zKk {n A lo hi:Nat}(m:lo<=hi)(o:hi<=n)(u:lo<n)(κ a:IntKind):xJ n 1 (.ptr A 0) (some (.int κ (lo:Nat))) (some (.int a (hi:Nat))) none=some (.slice A lo (hi - lo) (2*(n - lo))):=by
 have f:=kL κ (z:=(lo:Int)) (by omega);have j:=kL a (z:=(hi:Int)) (by omega);simp only[yC]at f j;have b1:Nat.ble lo hi=true:=by rw[qW];exact m
 have b2:Nat.ble hi n=true:=by rw[qW];exact o
 have p:Nat.beq n lo=false:=by rw[qY];intro h;have:=Nat.eq_of_beq_eq_true h;omega
 have q:((2*n) % 2).beq 0=true:=by rw[jC];rfl
 have t:2*n / 2=n:=yP n (by omega);simp[xJ,kY,f,j,JC,b1,b2,q,p,t,kF,show Nat.blt 0 1=true from rfl]
theorem zCH {a b:Nat}(f:a<18446744073709551616)(hb:b<256):wU .xor (.int .u64 a) (.int .u64 (b:Int))=some (.int .u64 (Nat.xor a b:Nat))/\Nat.xor a b<18446744073709551616:=by
 have h:Nat.blt a (KE .u64)=true:=by rw[qE];exact f
 have j:Nat.blt b (KE .u64)=true:=by rw[qE];exact Nat.lt_trans hb (by decide)
 have hl:Nat.xor a b<18446744073709551616:=Nat.xor_lt_two_pow (n:=64) f (Nat.lt_trans hb (by decide));have m:keq .u64 .u64=true:=rfl;have o:IntKind.wrap .u64 ((Nat.xor a b:Nat):Int)=((Nat.xor a b:Nat):Int):=by rw[wrap_u64];omega
 have p:Q1 .xor .u64 (.ofNat a) (.ofNat b)=some (.int .u64 (Nat.xor a b:Nat)):=by
  simp only[Q1,IntKind.signed,Bool.not_false,h,j,qP,zP,vZ,Int.ofNat_eq_natCast,o]
 have q:wU .xor (.int .u64 (.ofNat a)) (.int .u64 (.ofNat b))=Q1 .xor .u64 (.ofNat a) (.ofNat b):=by simp only[wU,fF,m,zP]
 exact⟨q.trans p,hl⟩
theorem zQl (s:Str)(i:IntKind)(h:k<s.length):XG (S s) (.int i (k:Int))=some (.int .u8 ((s[k]).toNat:Nat)):=by
 have:=zAB s i (z:=(k:Int)) (by omega) (by simpa using h);simpa using this
theorem V7: ∀(b:Str),uC (List.replicate b.length 7) (jO b) (jO b)=some true
 | []=>rfl
 | x::b=>by
  have h:=J7 .u8 (x.toNat:Int) (x.toNat:Int);have e:ZP .u8=7:=rfl;rw[e,decide_eq_true rfl]at h;simp only[zT,List.replicate_succ,jO,yJ,uC,h];exact V7 b
theorem zOC {b:Str}(h:b.length=k):eqA (List.replicate k 7) (.agg (jO b)) (.agg (jO b))=some true:=by
 subst h;have a:=zI1 (jO b);rw[jT]at a;have f:(List.replicate b.length 7).length=b.length:=List.length_replicate;simp only[eqA,a,f,Nat.add_zero,yF,qP,zP,V7]
end Go.Eng
namespace Go.Eng.Sh
open Go.Nd (Str)
open Go.Bk
def zQZ (H:AH){s:Str}(a:H.ok)(g:H.h.get k=some (.cells (jO s) w 1 false))(hl:s.length=t):zF3 (.slice k 0 t (2*t)) H=some (S s):=
 KK (n:=t) ⟨by rw[jT,hl,Nat.mul_one], .inr (.inr ⟨_,_,_,_,_,_,_,rfl,g,a.lt g,by rw[jT,hl];omega,by
  rw[yL,zY (by rw[jT,hl];omega)]⟩)⟩ (by simp)
def st1d (a:h.ok){o:Nat}{x:AV}(H:h.h.get k=some (.cells l w 1 false))(f:Eng.isCell x=true)(j:o<l.length): ∃H',stN 1 (.ptr k o) x h=some (jQ,H')/\H'.h.get k=some (.cells (l.set o x) w 1 false)/\Stp (fun B=>B=k) h H':=
 ⟨_,cE H (by decide) f j,by rw[zRk,if_pos rfl],(zRo a).put (a.lt H) _ (.inr rfl)⟩
theorem zM9 (x:AV): ∀n,rep n [x]=List.replicate n x
 | 0=>rfl
 | n+1=>by rw[rep,zM9 x n,List.replicate_succ];rfl
theorem ZK (n:Nat):rep n [AV.int .u8 (0:Nat)]=jO (List.replicate n 0):=by
 rw[zM9];simp[jO]
theorem bytesV_cells (b:Str):jP (jO b)=true:=by
 rw[wJ];intro x a;obtain⟨b,_,rfl⟩:=qZ.1 a;rfl
theorem xB (A:h.h.get k=some (.cells l w 1 N))(hl:l.length=t):ldN t (.ptr k 0) h=some (.agg l):=by
 rw[jR A,wC _ _ _ (.inr (by omega)),yL,<-hl,j9];rfl
theorem stR (j:h.ok){b b':Str}(H:h.h.get k=some (.cells (jO b) w 1 false))(a:b.length=t)(m:b'.length=t):
  ∃H',stN t (.ptr k 0) (.agg (jO b')) h=some (jQ,H')/\H'.h.get k=some (.cells (jO b') w 1 false)/\Stp (fun B=>B=k) h H':=by
 obtain⟨H',f,o,p,_⟩:=jV j H (l':=jO b') (by rw[jT,jT,a,m]) (bytesV_cells b');rw[jT,a]at f;exact⟨H',f,o,p⟩
def ldR {b:Str}(H:h.h.get k=some (.cells (jO b) w 1 N))(a:b.length=t):ldN t (.ptr k 0) h=some (.agg (jO b)):=xB H (by rw[jT,a])
theorem zOH{H:AH}(s:Str)(t:s.length<n)(u:s.length<=1000000000):f225 D n [S s] H=some (.int .u64 (U7 s:Nat),H):=by
 have m:kJ n (zCg D n) [.int .u64 (14695981039346656037:Nat),S s, .int .i64 s.length, .int .i64 (0:Nat)] H=some (.exit 0 [.int .u64 (U7 s:Nat)],H):=by
  refine uX (fun i=>[.int .u64 (U7 (s.take i):Nat),S s, .int .i64 s.length, .int .i64 ((i:Nat):Int)]) s.length (fun i hi=> ?_) (fun k=> ?_) n (by omega)
  .have hl:U7 (s.take i)<18446744073709551616:=zAd _ _ (by omega);have o:=zQl s .i64 hi;have x:=(s[i]).toNat_lt;obtain⟨f,q⟩:=zCH (a:=U7 (s.take i)) (b:=(s[i]).toNat) hl (by omega);have p:IntKind.wrap .u64 (((s[i]).toNat:Nat):Int)=(((s[i]).toNat:Nat):Int):=by rw[wrap_u64];omega
   have h:wU .mul (.int .u64 ((Nat.xor (U7 (s.take i)) (s[i]).toNat:Nat):Int)) (.int .u64 (1099511628211:Nat))=some (.int .u64 ((U7 (s.take (i+1)):Nat):Int)):=by
    rw[zFj,wrap_u64,qM hi];have e:U7 (s.take i++[s[i]])=Nat.xor (U7 (s.take i)) (s[i]).toNat*1099511628211 % 18446744073709551616:=zBg _ _ _;rw[e,Int.natCast_emod,Int.natCast_mul];rfl
   have j:((i:Nat):Int)< (s.length:Int):=by omega
   have hi1:((i:Nat):Int)+((1:Nat):Int)=((i+1:Nat):Int):=by omega
   simp(maxSteps:=999999)(disch:=omega) only[zCg,eZ,j,o,p,f,h,hi1]
  .refine jW ?_;simp only[zCg,eZ,y7,j9]
 simp only[f225,f230,eZ,cL,m,zME]
theorem zJs(p:1000<=n){H:AH}(j:H.ok){b:Str}(hb:b.length=512): ∃H',f208 D n [.agg (jO b)] H=some (.int .u64 (U7 b:Nat),H')/\Prs H H':=by
 obtain⟨a,A1,b1,f,m,q,t⟩:=box j (.cells (jO b) 55 1 false);have o:xJ 512 1 (.ptr A1 0) none none none=some (.slice A1 0 512 1024):=rfl;have h:zF3 (.slice A1 0 512 1024) a=some (S b):=zQZ a f.ok m hb;have e:=zOH D n (H:=a) b (by omega) (by omega);refine⟨a, ?_,f⟩;simp(maxSteps:=999999)(disch:=omega) only[f208,eZ,b1,o,h,e]
theorem zH9(hn:1000<=n)(hk:h.ok)(kind:UInt8)(hb:w<=2147483647){body:Str}(hl:body.length<=500):
  ∃H',zOx D n [.int .u8 kind.toNat, .int .i64 w,S body] h=some (.tuple [.agg (jO (sealB kind w body)), .int .i64 (0:Nat)],H')/\Prs h H':=by
 obtain⟨Z,K⟩: ∃Z:Str,Z=List.replicate 512 0:=⟨_,rfl⟩;have a2:Z.length=512:=by rw[K];simp
 have a3:rep 512 [AV.int .u8 (0:Nat)]=jO Z:=by rw[ZK,K]
 obtain⟨H1,A6,b1,t,g1,m1,n1⟩:=box hk (.cells (jO Z) 55 1 false);obtain⟨H2,a,b2,u,g2,m2,n2⟩:=box t.ok (.cells (jO Z) 55 1 false);have N1:=t.next;have N2:=u.next
 have t1: ¬(w:Int)< ((0:Nat):Int):=by omega
 have t2: ¬((2147483647:Nat):Int)< (w:Int):=by omega
 have t3: ¬((500:Nat):Int)< (body.length:Int):=by omega
 have s0:xJ 512 1 (.ptr a 0) none none none=some (.slice a 0 512 1024):=rfl;have s1:xJ 512 1 (.ptr a 0) (some (.int .i64 (6:Nat))) (some (.int .i64 (8:Nat))) none=some (.slice a 6 2 1012):=rfl;have s2:xJ 512 1 (.ptr a 0) (some (.int .i64 (8:Nat))) (some (.int .i64 (12:Nat))) none=some (.slice a 8 4 1008):=rfl;have s3:xJ 512 1 (.ptr a 0) (some (.int .i64 (12:Nat))) none none=some (.slice a 12 500 1000):=rfl;have ix:fQ 512 1 (.ptr a 0) (.int .i64 (4:Nat))=some (.ptr a 4):=rfl;have hm:(AV.str 4 2037675114)=S uB:=rfl;obtain⟨H3,y,N,j⟩:=zQS (off:=0) (m:=512) (cc:=1024) (s:=uB) g2 u.ok (by omega);have a1:min uB.length 512=4:=rfl;rw[a1]at y N;have o3:Ex.over Z 0 (uB.take 4)=uB++(0::List.replicate 507 0):=by
  rw[K];rfl
 rw[o3]at N;obtain⟨H4,e4,T,st4⟩:=st1d j.ok N (o:=4) (x:= .int .u8 kind.toNat) rfl (by rw[jT];simp[uB]);have o4:(jO (uB++(0::List.replicate 507 0))).set 4 (.int .u8 kind.toNat)=jO ((uB++[kind,0])++List.replicate 506 0):=by
  simp[jO,uB,List.replicate_succ]
 rw[o4]at T;obtain⟨H5,e5,g5,st5,_⟩:=zHy D n st4.ok (off:=6) (k:=2) (cc:=1012) body.length T (by rw[jT];simp[uB]) (by omega) (by omega);have o5:(jO ((uB++[kind,0])++List.replicate 506 0)).take 6++(jO (be 2 body.length)++(jO ((uB++[kind,0])++List.replicate 506 0)).drop (6+2))=jO ((uB++([kind,0]++be 2 body.length))++List.replicate 504 0):=by
  simp[jO,uB,List.replicate_succ]
 rw[o5]at g5;obtain⟨H6,e6,g6,p,_⟩:=zHy D n st5.ok (off:=8) (k:=4) (cc:=1008) w g5 (by rw[jT];simp[uB,Nd.be_length]) (by omega) (by omega);have z:(uB++([kind,0]++be 2 body.length)).length=8:=by simp[uB,Nd.be_length]
 have o6:(jO ((uB++([kind,0]++be 2 body.length))++List.replicate 504 0)).take 8++(jO (be 4 w)++(jO ((uB++([kind,0]++be 2 body.length))++List.replicate 504 0)).drop (8+4))=jO (zAD kind w body.length++List.replicate 500 0):=by
  obtain⟨Y,hY⟩: ∃Y,Y=uB++([kind,0]++be 2 body.length):=⟨_,rfl⟩;rw[<-hY]at z⊢;have e1:(jO (Y++List.replicate 504 0)).take 8=jO Y:=by
   simp only[jO,List.map_append];rw[jA (by rw[jE,z])]
  have e2:(jO (Y++List.replicate 504 0)).drop 12=jO (List.replicate 500 0):=by
   simp only[jO,List.map_append];rw[show 12=8+4 from rfl,<-List.drop_drop,yX (by rw[jE,z])];simp
  have y:zAD kind w body.length=Y++be 4 w:=by rw[hY,zAD];simp
  rw[e1,show 8+4=12 from rfl,e2,y];simp[jO]
 rw[o6]at g6;have C:=XI kind w body.length;obtain⟨H7,e7,O,q⟩:=zQS (off:=12) (m:=500) (cc:=1000) (s:=body) g6 p.ok (by simp[C]);have a0:min body.length 500=body.length:=by omega
 rw[a0]at e7 O;have o7:Ex.over (zAD kind w body.length++List.replicate 500 0) 12 (body.take body.length)=sealB kind w body:=by
  rw[j9,Ex.over,jA C,show 12+body.length=12+body.length from rfl,<-List.drop_drop,yX C,List.drop_replicate,sealB,zZ]
 rw[o7]at O;have M3:=j.next;have M4:=st4.next;have M5:=st5.next;have M6:=p.next;have M7:=q.next
 have J:=sealB_len (kind:=kind) (birth:=w) hl;have a4:H7.h.get A6=some (.cells (jO Z) 55 1 false):=by
  rw[q.keep _ (by omega) (by omega),p.keep _ (by omega) (by omega),st5.keep _ (by omega) (by omega),st4.keep _ (by omega) (by omega),j.keep _ (by omega) (by omega)];exact zRt u t.ok g1
 obtain⟨H8,e8,g8,a5⟩:=stR q.ok a4 a2 J;have r8:=ldR O J;have r6:=ldR g8 J;have w1:IntKind.wrap .u64 (body.length:Int)=(body.length:Int):=by rw[wrap_u64];omega
 have w2:IntKind.wrap .u64 (w:Int)=(w:Int):=by rw[wrap_u64];omega
 refine⟨H8, ?_,(((((((t.trans u).fresh j fun B f=>by omega).fresh st4 fun B f=>by omega).fresh st5 fun B f=>by omega).fresh p fun B f=>by omega).fresh q fun B f=>by omega).fresh a5 fun B f=>by omega)⟩;simp(maxSteps:=999999)(disch:=omega) only[zOx,eZ,a3,b1,t1,t2,cL,t3,b2,s0,hm,y,ix,e4,s1,zDG,w1,e5,s2,w2,e6,s3,e7,r8,e8,r6]
end Go.Eng.Sh
namespace Go.Bk
open Go.Nd (Str bee)
theorem seal_parts {kind:UInt8}{birth:Nat}{body:Str} :((sealB kind birth body).drop 6).take 2=be 2 body.length/\((sealB kind birth body).drop 8).take 4=be 4 birth/\((sealB kind birth body).drop 12).take body.length=body/\(sealB kind birth body)[4]? =some kind:=by
 have a:sealB kind birth body=(uB++[kind,0])++(be 2 body.length++(be 4 birth++(body++List.replicate (500 - body.length) 0))):=by simp[sealB,zAD]
 have f:sealB kind birth body=(uB++[kind,0]++be 2 body.length)++(be 4 birth++(body++List.replicate (500 - body.length) 0)):=by simp[sealB,zAD]
 refine⟨?_, ?_, ?_, ?_⟩
 .rw[a,yX (by simp[uB]),jA (Nd.be_length _ _)]
 .rw[f,yX (by simp[uB,Nd.be_length]),jA (Nd.be_length _ _)]
 .rw[sealB,yX (XI _ _ _),jA rfl]
 .rw[a];simp[uB]
theorem seal_inj {k':UInt8}{s s':Str}(m:s.length<=500)(j:s'.length<=500)(e:sealB V k s=sealB k' k s'):V=k'/\s=s':=by
 obtain⟨q1,_,q3,a⟩:=seal_parts (kind:=V) (birth:=k) (body:=s);obtain⟨r1,_,f,h⟩:=seal_parts (kind:=k') (birth:=k) (body:=s');rw[e]at q1 q3 a;rw[r1]at q1;have hl:=congrArg bee q1;rw[Nd.bee_be,Nd.bee_be,Nat.mod_eq_of_lt (by omega),Nat.mod_eq_of_lt (by omega)]at hl;rw[<-hl,f]at q3;rw[h]at a;exact⟨(qT a).symm,q3.symm⟩
end Go.Bk
namespace Go.Eng.Sh
open Go.Nd (Str bee)
open Go.Bk
def rowB (a:h.ok){lo k cc:Nat}{b:Str}(g:h.h.get w=some (.cells (jO b) t 1 false))(H:lo+k<=b.length):Rw 1 h (.slice w lo k cc) k (jO ((b.drop lo).take k)):=
 ⟨by rw[jT,qC,qL];omega, .inr (.inr ⟨_,_,_,_,_,_,_,rfl,g,a.lt g,by rw[jT];omega,by
  rw[Nat.mul_one];simp[jO,List.map_take,List.map_drop]⟩)⟩
theorem zHM(hn:1000<=n)(hk:h.ok)(kind:UInt8)(hb:w<=2147483647){body:Str}(hl:body.length<=500):
  ∃H',f209 D n [.agg (jO (sealB kind w body))] h=some (.tuple [.int .u8 kind.toNat, .int .i64 w,S body, .int .i64 (0:Nat)],H')/\Prs h H':=by
 obtain⟨B,q⟩: ∃B,B=sealB kind w body:=⟨_,rfl⟩;obtain⟨q1,q2,q3,t⟩:=seal_parts (kind:=kind) (birth:=w) (body:=body);have f:=sealB_len (kind:=kind) (birth:=w) hl;rw[<-q]at q1 q2 q3 t f⊢;obtain⟨m,A1,b1,a,j,m1,n1⟩:=box hk (.cells (jO B) 55 1 false);have s1:xJ 512 1 (.ptr A1 0) (some (.int .i64 (6:Nat))) (some (.int .i64 (8:Nat))) none=some (.slice A1 6 2 1012):=rfl;have s2:xJ 512 1 (.ptr A1 0) (some (.int .i64 (8:Nat))) (some (.int .i64 (12:Nat))) none=some (.slice A1 8 4 1008):=rfl;have s3:xJ 512 1 (.ptr A1 0) (some (.int .i64 (12:Nat))) (some (.int .u64 (12+body.length:Nat))) none=some (.slice A1 12 body.length 1000):=by
  have:=zKk (n:=512) (A:=A1) (lo:=12) (hi:=12+body.length) (by omega) (by omega) (by omega) .i64 .u64;rw[this,show 12+body.length - 12=body.length by omega]
 have ix:fQ 512 1 (.ptr A1 0) (.int .i64 (4:Nat))=some (.ptr A1 4):=rfl;have u:=rowB (cc:=1012) a.ok j (lo:=6) (k:=2) (by omega);have x:=rowB (cc:=1008) a.ok j (lo:=8) (k:=4) (by omega);have y:=rowB (cc:=1000) a.ok j (lo:=12) (k:=body.length) (by omega);rw[q1]at u;rw[q2]at x;rw[q3]at y;have Y:Rw 1 m (.slice A1 6 2 1012) (be 2 body.length).length (jO (be 2 body.length)):=by rw[Nd.be_length];exact u
 have a0:Rw 1 m (.slice A1 8 4 1008) (be 4 w).length (jO (be 4 w)):=by rw[Nd.be_length];exact x
 have z:=zC6 D n Y (by rw[Nd.be_length];omega) (by omega);have C:=zC6 D n a0 (by rw[Nd.be_length];omega) (by omega);rw[Nd.bee_be,Nat.mod_eq_of_lt (by omega)]at z;rw[Nd.bee_be,Nat.mod_eq_of_lt (by omega)]at C;have a1:zF3 (.slice A1 12 body.length 1000) m=some (S body):=KK y (by simp);have r4:Eng.ld1 (.ptr A1 4) m=some (.int .u8 kind.toNat):=wY j (by
  rw[jO,jK,t];rfl)
 obtain⟨H2,J,o⟩:=zH9 D n hn a.ok kind hb hl;rw[<-q]at J;obtain⟨Z,K⟩: ∃Z:Str,Z=List.replicate 512 0:=⟨_,rfl⟩;have a2:Z.length=512:=by rw[K];simp
 have a3:rep 512 [AV.int .u8 (0:Nat)]=jO Z:=by rw[ZK,K]
 obtain⟨H3,A7,b3,p,g3,m3,n3⟩:=box o.ok (.cells (jO Z) 55 1 false);obtain⟨N,e4,g4,O⟩:=stR p.ok g3 a2 f;have N2:=o.next;have N3:=p.next
 have a4:N.h.get A1=some (.cells (jO B) 55 1 false):=by
  rw[O.keep _ (by omega) (by omega)];exact zRt (o.trans p) a.ok j
 have r7:=ldR g4 f;have r1:=ldR a4 f;have he:dS .neq (eqA (List.replicate 512 7) (.agg (jO B)) (.agg (jO B)))=some (.bool false):=by rw[zOC f];rfl
 have t1: ¬((500:Nat):Int)< (body.length:Int):=by omega
 have wi:IntKind.wrap .i64 (w:Int)=(w:Int):=wrap_i64 (by omega) (by omega);have T:((12:Nat):Int)+(body.length:Int)=((12+body.length:Nat):Int):=by omega
 have wu:IntKind.wrap .u64 ((12+body.length:Nat):Int)=((12+body.length:Nat):Int):=by rw[wrap_u64];omega
 have a5: ¬(((0:Nat):Int)≠((0:Nat):Int)):=by omega
 refine⟨N, ?_,((a.trans o).trans p).fresh O fun B q=>by omega⟩;simp(maxSteps:=999999)(disch:=omega) only[f209,eZ,b1,s1,z,t1,ix,r4,s2,C,zDG,wi,T,wu,s3,a1,J,jN,nth,a3,b3,e4,a5,r7,r1,he]
def fJ (at_:Nat)(birth:Nat)(b:Str):Ptr:=⟨(at_:Int),(birth:Int),((U7 b:Nat):Int)⟩
theorem zLt(q:1000<=n)(hk:h.ok)(kind:UInt8){at_:Nat}(ha:1<=at_)(hb:k<=2147483647){body:Str}(hl:body.length<=500):
  ∃H',f171 D n [.agg (jS (fJ at_ k (sealB kind k body))), .agg (jO (sealB kind k body))] h=some (.tuple [.int .u8 kind.toNat,S body, .int .i64 (0:Nat)],H')/\Prs h H':=by
 obtain⟨B,t⟩: ∃B,B=sealB kind k body:=⟨_,rfl⟩;have j:=sealB_len (kind:=kind) (birth:=k) hl;rw[<-t]at j;obtain⟨H1,A2,b1,o,g1,m1,n1⟩:=box hk (.cells (jS (fJ at_ k B)) 42 1 false);obtain⟨u,A3,b2,a,x,m2,n2⟩:=box o.ok (.cells (jO B) 55 1 false);obtain⟨H3,e3,f⟩:=zJs D n q a.ok j;obtain⟨y,z,C⟩:=zHM D n q f.ok kind hb hl;rw[<-t]at z⊢;have m:=zRt a o.ok g1;have p:=zRt f a.ok m;have J:=zRt f a.ok x;have N:=zRt C f.ok p;have r0:Eng.ld1 (.ptr A2 0) u=some (.int .i64 at_):=by rw[jM m];rfl
 have r2:Eng.ld1 (.ptr A2 2) u=some (.int .u64 (U7 B:Nat)):=by rw[jM m];rfl
 have O:Eng.ld1 (.ptr A2 2) H3=some (.int .u64 (U7 B:Nat)):=by rw[jM p];rfl
 have T:Eng.ld1 (.ptr A2 1) y=some (.int .i64 k):=by rw[jM N];rfl
 have r3:=ldR x j;have Y:=ldR J j;have t0: ¬(at_:Int)=((0:Nat):Int):=by omega
 have Z: ¬(((0:Nat):Int)≠((0:Nat):Int)):=by omega
 have tS: ¬(((U7 B:Nat):Int)≠((U7 B:Nat):Int)):=fun H=>H rfl
 have tb: ¬((k:Int)≠(k:Int)):=fun H=>H rfl
 have ck: ∀K:Rs,chk (some (.int .u64 (U7 B:Nat))) (.int .u64 (U7 B:Nat)) K=K:=fun K=>kW rfl (by simp[aveq,xX,xY])
 refine⟨y, ?_,((o.trans a).trans f).trans C⟩;simp(maxSteps:=999999)(disch:=omega) only[f171,eZ,b1,b2,r0,t0,r3,r2,e3,O,ck,tS,Y,z,jN,nth,Z,T,tb]
end Go.Eng.Sh
namespace Go.Eng
def cq:(∀A o,dS .eql (eqP (.ptr A o) .nP)=some (.bool false))/\dS .eql (eqP .nP .nP)=some (.bool true)/\(∀M,dS .eql (eqM (.map M) .nM)=some (.bool false))/\(∀A o,dS .neq (eqP (.ptr A o) .nP)=some (.bool true))/\dS .neq (eqP .nP .nP)=some (.bool false):=
 ⟨fun _ _=>rfl,rfl,fun _=>rfl,fun _ _=>rfl,rfl⟩
end Go.Eng
namespace Go.Bk
open Go.Nd (Str)
abbrev Ws:=List (Nat×Str)
def J2 (n:Nat):Ws->Option Nat
 | []=>none
 | (a,_)::l=>match J2 n l with
  | some i=>some (i+1)
  | none=>if a=n then some 0 else none
theorem J1 (n a:Nat)(b:Str): ∀l:Ws,J2 n (l++[(a,b)])=if a=n then some l.length else J2 n l
 | []=>by simp[J2]
 | (c,d)::l=>by
  simp only[qF,J2,J1 n a b l];by_cases e:a=n
  .simp[e]
  .simp[e]
theorem KD {n:Nat} : ∀ {l:Ws} {i:Nat},J2 n l=some i-> ∃h:i<l.length,(l[i]).1=n
 | (a,b)::l,i,h=>by
  simp only[J2]at h
  cases hl:J2 n l with
  | some j=>
   rw[hl]at h;simp only[zB]at h;subst h;obtain⟨f,m⟩:=KD hl;exact⟨by simpa using f,by simpa using m⟩
  | none=>
   rw[hl]at h;simp only at h;by_cases e:a=n
   .rw[if_pos e]at h;cases h;exact⟨by simp,e⟩
   .rw[if_neg e]at h;cases h
def blkAt (n:Nat)(l:Ws):Option Str:=(J2 n l).bind fun i=>(l[i]?).map (·.2)
theorem J9 (n a:Nat)(b:Str)(l:Ws):blkAt n (l++[(a,b)])=if a=n then some b else blkAt n l:=by
 rw[blkAt,J1];by_cases e:a=n
 .rw[if_pos e,if_pos e];simp
 .rw[if_neg e,if_neg e,blkAt]
  cases hl:J2 n l with
  | none=>rfl
  | some i=>
   obtain⟨f,_⟩:=KD hl;simp[yY f]
end Go.Bk
namespace Go.Eng.Sh
open Go.Nd (Str)
open Go.Bk
def wV (w:Nat×Str):List AV:= .int .i64 (w.1:Nat)::jO w.2
structure DkI (H:AH)(Ad nb:Nat)(ws:Ws)(On Nw:Nat)(wv:AV)(es:List (AV×AV)):Prop where
 gD:H.h.get Ad=some (.cells [.int .i64 nb, .map On,wv, .map Nw, .int .i64 (0:Nat), .nS, .bool false] 151 1 false)
 gO:H.h.get On=some (.map [6] [])
 gN:H.h.get Nw=some (.map [6] es)
 ow:Own 513 153 H wv ws.length (ws.flatMap wV)
 nw: ∀n:Nat,wB (.int .i64 n) es=(J2 n ws).map fun i=> .int .i64 ((i:Nat):Int)
 ln: ∀w∈ws,w.2.length=512
 few:ws.length<=1000000
 ne:On≠Nw
theorem zDV {w:Nat×Str}(h:w.2.length=512):(wV w).length=513:=by simp[wV,jT,h]
theorem zIq: ∀(l:Ws) (i:Nat) (h:i<l.length),(∀w∈l,w.2.length=512)->((l.flatMap wV).drop (i*513)).take 513=wV l[i]
 | p::l,0,_,hl=>by
  rw[Nat.zero_mul,yL,qJ,jA (zDV (hl p zJ))];rfl
 | p::l,i+1,h,hl=>by
  rw[qJ,show(i+1)*513=513+i*513 by omega,<-List.drop_drop,yX (zDV (hl p zJ))];exact zIq l i (by simpa using h) fun w a=>hl w (zC _ a)
def zJu (n:Nat)(ws:Ws):Str:=(blkAt n ws).getD (List.replicate 512 0)
theorem zLy {ws:Ws}(h: ∀w∈ws,w.2.length=512):(zJu k ws).length=512:=by
 rw[zJu,blkAt]
 cases hl:J2 k ws with
 | none=>simp
 | some i=>
  obtain⟨a,_⟩:=KD hl;simp only[yK,zQ a,qB,y9];exact h _ (yM a)
theorem keyI (z:Int):xO [6] (.int .i64 z)=true:=rfl
theorem zN3{ws:Ws}(d:DkI h k w ws t s A H)(p:C<w):f74 D n [.ptr k 0, .int .i64 C] h=some (.int .i64 (0:Nat),h):=by
 have o:Eng.ld1 (.ptr k 6) h=some (.bool false):=by rw[jM d.gD];rfl
 have r0:Eng.ld1 (.ptr k 0) h=some (.int .i64 w):=by rw[jM d.gD];rfl
 have a:f120 D n [.ptr k 0] h=some (.int .i64 (0:Nat),h):=by
  simp(maxSteps:=999999)(disch:=omega) only[f120,eZ,cq,o]
 have f: ¬(((0:Nat):Int)≠((0:Nat):Int)):=by omega
 have t1: ¬(C:Int)< ((0:Nat):Int):=by omega
 have t2: ¬(w:Int)<=(C:Int):=by omega
 simp(maxSteps:=999999)(disch:=omega) only[f74,eZ,a,f,t1,r0,t2]
theorem zJ4(p:h.ok){ws:Ws}(d:DkI h k w ws t s A H)(Y:C<w):
  ∃H',f25 D n [.ptr k 0, .int .i64 C] h=some (.tuple [.agg (jO (zJu C ws)), .int .i64 (0:Nat)],H')/\Prs h H':=by
 obtain⟨Z,y⟩: ∃Z:Str,Z=List.replicate 512 0:=⟨_,rfl⟩;have a0:Z.length=512:=by rw[y];simp
 have J:rep 512 [AV.int .u8 (0:Nat)]=jO Z:=by rw[ZK,y]
 obtain⟨a,A4,b1,Ad,g1,m1,n1⟩:=box p (.cells (jO Z) 55 1 false);have f:DkI a k w ws t s A H:=⟨zRt Ad p d.gD,zRt Ad p d.gO,zRt Ad p d.gN,d.ow.mono Ad fun _ _ x=>x,d.nw,d.ln,d.few,d.ne⟩;have O:=zN3 D n f Y;have K: ¬(((0:Nat):Int)≠((0:Nat):Int)):=by omega
 have S:Eng.ld1 (.ptr k 3) a=some (.map s):=by rw[jM f.gD];rfl
 have r1:Eng.ld1 (.ptr k 1) a=some (.map t):=by rw[jM f.gD];rfl
 have r2:Eng.ld1 (.ptr k 2) a=some A:=by rw[jM f.gD];rfl
 have N:(zJu C ws).length=512:=zLy d.ln;obtain⟨H2,z,g2,s2⟩:=stR Ad.ok g1 a0 N;have rr:=ldR g2 N;refine⟨H2, ?_,Ad.fresh s2 fun B hB=>by omega⟩
 cases hl:J2 C ws with
 | none=>
  have m:=d.nw C;rw[hl]at m;have nb:lkM [6] (.int .i64 (0:Nat)) true (.map s) (.int .i64 C) a=some (.tuple [.int .i64 (0:Nat), .bool false]):=by
   simp only[lkM,keyI,zP,f.gN,show Y4 [6] [6]=true from rfl,m,Option.map_none];rfl
  have a1:lkM [6] (.agg (jO Z)) false (.map t) (.int .i64 C) a=some (.agg (jO Z)):=by
   simp only[lkM,keyI,zP,f.gO,show Y4 [6] [6]=true from rfl,wB];rfl
  have j:zJu C ws=Z:=by rw[zJu,blkAt,hl,y];rfl
  rw[j]at z rr⊢;simp(maxSteps:=999999)(disch:=omega) only[f25,eZ,J,b1,O,K,S,nb,jN,nth,r1,a1,z,rr]
 | some i=>
  obtain⟨hi,_⟩:=KD hl;have m:=d.nw C;rw[hl]at m;have nb:lkM [6] (.int .i64 (0:Nat)) true (.map s) (.int .i64 C) a=some (.tuple [.int .i64 i, .bool true]):=by
   simp only[lkM,keyI,zP,f.gN,show Y4 [6] [6]=true from rfl,m,qB];rfl
  have j:zJu C ws=ws[i].2:=by rw[zJu,blkAt,hl];simp[zQ hi]
  obtain⟨q,o,c,e,sz,g,q1,q2,q3,q4,T⟩:=Rw.at f.ow.row hi;rw[zIq ws i hi d.ln]at T;have a2:=q1 .i64 (i:Int) rfl;have a3:ldN 512 (.ptr q (o+1)) a=some (.agg (jO (zJu C ws))):=by
   rw[J0 q2 (by omega),j];have h2:(c.drop (o+1)).take 512=((c.drop o).take 513).drop 1:=by
    rw[List.drop_take,List.drop_drop]
   rw[h2,T];rfl
  simp(maxSteps:=999999)(disch:=omega) only[f25,eZ,J,b1,O,K,S,nb,jN,nth,r2,a2,a3,z,rr]
end Go.Eng.Sh
namespace Go.Eng
theorem zLH (s t:Nat):aveq (.int .u64 (s:Nat)) (.int .u64 (t:Nat))=decide (s=t):=by
 have:keq .u64 .u64=true:=by rw[xX];simp
 simp only[aveq,this,Bool.true_and,xY];rw[yI];simp only[zR,beq_iff_eq];exact Int.ofNat_inj
theorem zQe (s:Nat):xO [10] (.int .u64 (s:Nat))=true:=rfl
end Go.Eng
namespace Go.Eng.Sh
abbrev PN:=List (Nat×Nd.Node)
def jX (s:Nat):PN->Option Nd.Node
 | []=>none
 | (a,n)::l=>if a=s then some n else jX s l
def zF6 (s:Nat):PN->PN
 | []=>[]
 | (a,n)::l=>if a=s then l else(a,n)::zF6 s l
def uL (H:AH):List (AV×AV)->PN->Prop
 | [],[]=>True
 | (k,v)::es,(s,nd)::q=>(k= .int .u64 (s:Nat)/\jZ H v nd)/\uL H es q
 | _,_=>False
theorem uL.len {H:AH} : ∀ {es:List (AV×AV)} {q:PN},uL H es q->es.length=q.length
 | [],[],_=>rfl
 | _::es,_::q,h=>by simp[uL.len h.2]
 | [],_::_,h=>h.elim
 | _::_,[],h=>h.elim
theorem uL.find {H:AH}(s:Nat): ∀ {es:List (AV×AV)} {q:PN},uL H es q->(∀nd,jX s q=some nd-> ∃v,wB (.int .u64 (s:Nat)) es=some v/\jZ H v nd/\ ∃k,(k,v)∈es)/\(jX s q=none->wB (.int .u64 (s:Nat)) es=none)
 | [],[],_=>⟨fun nd h=>(by cases h),fun _=>rfl⟩
 | (k,v)::es,(t,nd)::q,h=>by
  obtain⟨⟨rfl,j⟩,m⟩:=h;obtain⟨o,p⟩:=uL.find s m;simp only[jX,wB,zLH];by_cases e:t=s
  .subst e;refine⟨fun a h=> ?_,fun h=>by simp at h⟩;simp only[if_true,zB]at h;subst h;exact⟨v,by simp,j,_,zJ ..⟩
  .have f: ¬s=t:=fun h=>e h.symm
   refine⟨fun a h=> ?_,fun h=> ?_⟩
   .rw[if_neg e]at h;obtain⟨u,x,y,k,z⟩:=o a h;exact⟨u,by simp[f,x],y,k,zC _ z⟩
   .rw[if_neg e]at h;simp[f,p h]
 | [],_::_,h=>h.elim
 | _::_,[],h=>h.elim
theorem uL.frame {H H':AH} : ∀ {es:List (AV×AV)} {q:PN},uL H es q->(∀kv∈es,∀nd,jZ H kv.2 nd->jZ H' kv.2 nd)->uL H' es q
 | [],[],_,_=>trivial
 | (k,v)::es,(s,nd)::q,h,hf=>⟨⟨h.1.1,hf (k,v) (zJ ..) nd h.1.2⟩,uL.frame h.2 fun kv a=>hf kv (zC _ a)⟩
 | [],_::_,h,_=>h.elim
 | _::_,[],h,_=>h.elim
theorem uL.snoc {H:AH}{v:AV}{s:Nat}{nd:Nd.Node}(a:jZ H v nd): ∀ {es:List (AV×AV)} {q:PN},uL H es q->uL H (es++[(.int .u64 (s:Nat),v)]) (q++[(s,nd)])
 | [],[],_=>⟨⟨rfl,a⟩,trivial⟩
 | _::es,_::q,h=>⟨h.1,uL.snoc a h.2⟩
 | [],_::_,h=>h.elim
 | _::_,[],h=>h.elim
theorem v8 (s:Nat): ∀(a b:PN),jX s (a++b)=match jX s a with | some n=>some n | none=>jX s b
 | [],_=>rfl
 | (t,n)::a,b=>by
  simp only[qF,jX];split
  .rfl
  .exact v8 s a b
theorem setA_none {k v:AV} : ∀ {es:List (AV×AV)},wB k es=none->K1 k v es=none
 | [],_=>rfl
 | (a,b)::es,h=>by
  simp only[wB]at h;simp only[K1]
  cases e:aveq k a with
  | true=>rw[e]at h;cases h
  | false=>rw[e]at h;simp only[qH]at h⊢;rw[setA_none h]
theorem uL.del {H:AH}(s:Nat): ∀ {es:List (AV×AV)} {q:PN},uL H es q->(∀nd,jX s q=some nd-> ∃es',zJ8 (.int .u64 (s:Nat)) es=some es'/\uL H es' (zF6 s q)/\ ∀kv∈es',kv∈es)
 | [],[],_=>fun nd h=>by cases h
 | (k,v)::es,(t,nd)::q,h=>by
  obtain⟨⟨rfl,m⟩,j⟩:=h;have o:=uL.del s j;simp only[jX,zJ8,zLH,zF6];by_cases e:t=s
  .subst e;intro f _;exact⟨es,by simp,by simpa using j,fun kv a=>zC _ a⟩
  .have p: ¬s=t:=fun h=>e h.symm
   intro f h;rw[if_neg e]at h;obtain⟨es',u,x,y⟩:=o f h;refine⟨(.int .u64 (t:Nat),v)::es',by simp[p,u], ?_,fun kv a=> ?_⟩
   .rw[if_neg e];exact⟨⟨rfl,m⟩,x⟩
   .rcases zK.1 a with rfl | a
    .exact zJ ..
    .exact zC _ (y kv a)
 | [],_::_,h=>h.elim
 | _::_,[],h=>h.elim
def zRb (o:AObj):Prop:=(∃x r e g,o= .cells (x::r) e 1 g/\ ∀l b,x≠ .str l b)\/(∃ks es,o= .map ks es)\/ ∃l e k g,o= .cells l e k g/\k≠1/\k≠3
theorem kZ.nsep {k e n:Nat}{H:AH}{v:AV}{l:List AV}(h:kZ k e H v n l){A:Nat}{o:AObj}(a:H.h.get A=some o)(j: ∀m g,o≠ .cells l m k g): ¬Blk v A:=by
 intro hb;rcases h with⟨_,⟨rfl,_⟩ | ⟨B,rfl,_,f⟩⟩ | ⟨_,B,m,g,rfl,_,f,_⟩
 .exact zRu.1 hb
 .rw[zRl.1 hb]at a;rw[f]at a;exact j _ _ (qT a).symm
 .rw[zRl.1 hb]at a;rw[f]at a;exact j _ _ (qT a).symm
def zRs:=@kZ.nsep
theorem jZ.nblk (H:jZ h A i)(f:h.h.get k=some U)(j:zRb U): ¬xS A k:=by
 obtain⟨ks,vs,ps,rfl,p,q,t⟩:=H;have m: ∀(l:List Str),∀a g,U≠ .cells (l.map S) a 1 g:=fun l a g e=>by
  rcases j with⟨x,r,u,z,rfl,C⟩ | ⟨_,_,rfl⟩ | ⟨_,_,_,_,rfl,k1,k3⟩
  .simp only[AObj.cells.injEq]at e
   cases l with
   | nil=>simp at e
   | cons y l=>
    simp only[yJ,y8]at e;exact C _ _ e.1.1
  .cases e
  .simp only[AObj.cells.injEq]at e;omega
 have J: ∀a g,U≠ .cells (i.kids.flatMap jS) a 3 g:=fun a g e=>by
  rcases j with⟨x,r,u,z,rfl,_⟩ | ⟨_,_,rfl⟩ | ⟨_,_,_,_,rfl,k1,k3⟩
  .simp only[AObj.cells.injEq]at e;omega
  .cases e
  .simp only[AObj.cells.injEq]at e;omega
 intro hb;rcases wO.1 hb with H | H | H
 .exact zRs p f (m _) H
 .exact zRs q f (m _) H
 .exact zRs t f J H
theorem jZ.stp {S:Nat->Prop}{H H':AH}{v:AV}{nd:Nd.Node}(h:jZ H v nd)(s:Stp S H H')(f: ∀A,xS v A-> ¬S A):jZ H' v nd:=by
 obtain⟨ks,vs,ps,rfl,j,m,o⟩:=h;exact⟨ks,vs,ps,rfl,j.mono s (fun A a=>f A (wO.2 (.inl a))),m.mono s (fun A a=>f A (wO.2 (.inr (.inl a)))),o.mono s (fun A a=>f A (wO.2 (.inr (.inr a))))⟩
theorem jZ.lt {H:AH}{v:AV}{nd:Nd.Node}(h:jZ H v nd){B:Nat}(a:xS v B):B<H.next:=by
 obtain⟨ks,vs,ps,rfl,f,j,m⟩:=h;rcases wO.1 a with h | h | h
 .exact f.lt h
 .exact j.lt h
 .exact m.lt h
def Stp.thr {T:Nat->Prop}(S:Stp Q h F)(k:Stp T F P)(f: ∀A,T A->h.next<=A\/Q A):Stp Q h P:=
 ⟨k.ok,qN S.next k.next,fun A j m=>by
  rw[k.keep A (qG j S.next) (fun x=>by rcases f A x with y | y;omega;exact m y),S.keep A j m]⟩
def wN (d c:AV)(root:Ptr)(M a:Nat)(f:AV):List AV:=[d,c, .int .i64 root.at_, .int .i64 root.birth, .int .u64 root.sum, .map M, .int .u64 (a:Nat),f]
structure Ev where
 nb:Nat
 ws:Bk.Ws
 dl:List Ptr
 x:Nat->Prop
def XE (E:Ev)(a:AV)(B:Nat):Prop:=Blk a B\/E.x B
def OnD (E:Ev)(p:Ptr)(nd:Nd.Node):Prop:= ∃(a birth:Nat) (kind:UInt8) (body:Str),p=fJ a birth (Bk.sealB kind birth body)/\2<=a/\a<E.nb/\(a<8192/\ ∀k∈nd.kids,k.at_≠1)/\birth<=2147483647/\body.length<=500/\Bk.blkAt a E.ws=some (Bk.sealB kind birth body)/\(kind=1\/kind=2)/\Nd.decN ltS (decide (kind=1)) body=some nd
theorem zNW {E:Ev}(h:OnD E B i)(q:OnD E B G):i=G:=by
 obtain⟨a,b,k,s,rfl,_,_,_,hb,t,u,_,x⟩:=h;obtain⟨y,b',k',s',e,_,_,_,N,o,j,_,m⟩:=q;simp only[fJ,Ptr.mk.injEq]at e;have z:a=y:=by omega
 have C:b=b':=by omega
 subst z;subst C;rw[u]at j;obtain⟨J,K⟩:=Bk.seal_inj t o (qT j);subst J;subst K;rw[x]at m;exact qT m
open Classical in
noncomputable def Ev.K (E:Ev)(p:Ptr):Option Nd.Node:=if h: ∃nd,OnD E p nd then some (Classical.choose h)else none
theorem Ev.K_iff {E:Ev}{p:Ptr}{nd:Nd.Node} :E.K p=some nd↔OnD E p nd:=by
 rw[Ev.K];constructor
 .intro h;split at h
  .rename_i a;rw[<-qT h];exact Classical.choose_spec a
  .cases h
 .intro h;rw[dif_pos ⟨nd,h⟩];exact congrArg some (zNW (Classical.choose_spec (⟨nd,h⟩: ∃nd,OnD E p nd)) h)
def zRn:=@Ev.K_iff
def pp (s:Nat):Ptr:=⟨1,0,(s:Nat)⟩
noncomputable def Qf (E:Ev)(q f:PN)(p:Ptr):Option Nd.Node:=if p=pp p.sum.toNat then(match jX p.sum.toNat f with | some n=>some n | none=>jX p.sum.toNat q)else E.K p
theorem zAZ (E:Ev)(q f:PN)(s:Nat):Qf E q f (pp s)=match jX s f with | some n=>some n | none=>jX s q:=by simp[Qf,pp]
theorem uK {E:Ev}{q f:PN}(h:Qf E q f B=some i):(∃s,B=pp s/\(jX s f=some i\/(jX s f=none/\jX s q=some i)))\/((∀s,B≠pp s)/\E.K B=some i):=by
 simp only[Qf]at h;split at h
 .rename_i e;refine .inl ⟨_,e, ?_⟩;split at h
  .rename_i n a;exact .inl (a.trans h)
  .rename_i a;exact .inr ⟨a,h⟩
 .rename_i e;exact .inr ⟨fun s es=>e (by rw[es];simp[pp]),h⟩
theorem JD {E:Ev}{q f:PN}(h: ∀s,B≠pp s):Qf E q f B=E.K B:=by rw[Qf,if_neg (h _)]
structure TI (E:Ev)(H:AH)(At M:Nat)(d c:AV)(root:Ptr)(es:List (AV×AV))(q:PN)(last:Nat)(dr:AV):Prop where
 ok:H.ok
 gT:H.h.get At=some (.cells (wN d c root M last dr) 140 1 false)
 gM:H.h.get M=some (.map [10] es)
 pq:uL H es q
 dk: ∃Ad On Nw wv ds,d= .ptr Ad 0/\DkI H Ad E.nb E.ws On Nw wv ds
 cn:c= .nP\/ ∀p,E.K p=none
 dg:kZ 3 42 H dr E.dl.length (E.dl.flatMap jS)
 ds: ∀kv∈es,∀B,xS kv.2 B-> ¬XE E dr B
 few:q.length<=1000000000
 xl: ∀B,E.x B->B<H.next
theorem TI.hd {E:Ev}{a:PN}(At:TI E h k w A q B H a t I): ∃M o,A= .ptr M o:=by
 obtain⟨M,_,_,_,_,e,_⟩:=At.dk;exact⟨M,0,e⟩
def DkI.stp {S:Nat->Prop}{H H':AH}{Ad nb:Nat}{ws:Bk.Ws}{a f:Nat}{h:AV}{es:List (AV×AV)}(d:DkI H Ad nb ws a f h es)(j:H.ok)(s:Stp S H H')(m: ¬S Ad)(o: ¬S a)(p: ¬S f)(q: ∀B,Blk h B-> ¬S B):DkI H' Ad nb ws a f h es:=
 ⟨by rw[s.keep _ (j.lt d.gD) m];exact d.gD,by rw[s.keep _ (j.lt d.gO) o];exact d.gO,by rw[s.keep _ (j.lt d.gN) p];exact d.gN,d.ow.mono s q,d.nw,d.ln,d.few,d.ne⟩
def DkI.prs {ws:Bk.Ws}(d:DkI h k w ws t s A H)(j:h.ok)(H':Prs h F):DkI F k w ws t s A H:=d.stp j H' (fun x=>x) (fun x=>x) (fun x=>x) fun _ _ x=>x
theorem TI.prs {E:Ev}{H H':AH}{At M a:Nat}{d c f:AV}{root:Ptr}{es:List (AV×AV)}{q:PN}(h:TI E H At M d c root es q a f)(s:Prs H H'):TI E H' At M d c root es q a f:=
 ⟨s.ok,zRt s h.ok h.gT,zRt s h.ok h.gM,h.pq.frame fun kv _ nd j=>j.prs s,by
  obtain⟨Ad,m,o,p,t,e,hd⟩:=h.dk;exact⟨Ad,m,o,p,t,e,hd.prs h.ok s⟩,h.cn,h.dg.mono s fun _ _ x=>x,h.ds,h.few,fun B u=>qG (h.xl B u) s.next⟩
theorem YV{E:Ev}{a:PN}(At:TI E h k w A q B H a t I):f73 D n [.ptr k 0] h=some (.bool false,h):=by
 obtain⟨M,o,rfl⟩:=At.hd;simp only[f73,eZ,cq,jM At.gT,wN]
theorem zO1{E:Ev}{M:PN}(At:TI E h k w A q B H M t I):f76 D n [.ptr k 0] h=some (.int .i64 (8192+M.length:Nat),h):=by
 have m:=At.few;have f:QR (.map w) h=some (.int .i64 M.length):=by
  simp only[QR,At.gM,kF,At.pq.len];rfl
 have e:((8192:Nat):Int)+(M.length:Int)=((8192+M.length:Nat):Int):=by omega
 simp(disch:=omega) only[f76,eZ,jM At.gT,wN,f,e]
theorem zBB{E:Ev}{d:PN}(At:TI E h k w A q B H d t I)(hs:jX s d=some i):
  ∃v H',f77 D n [.ptr k 0, .agg (jS (pp s))] h=some (.tuple [v, .int .i64 (0:Nat)],H')/\Prs h H'/\jZ H' v i/\ ∃M,(M,v)∈H:=by
 obtain⟨v,f1,y,hm⟩:=(At.pq.find s).1 i hs;obtain⟨H1,z,b1,f,C,m1,n1⟩:=box At.ok (.cells [.int .i64 (1:Nat), .int .i64 (0:Nat), .int .u64 (s:Nat)] 42 1 false);obtain⟨J,A4,b2,j,g2,m2,n2⟩:=box f.ok (.cells [.bool false, .nS, .nS, .nS] 119 1 false);have a:Prs h J:=f.trans j;obtain⟨K,A6,b3,m,g3,m3,n3⟩:=box a.ok (.cells [.bool false, .nS, .nS, .nS] 119 1 false);have N:=a.trans m;obtain⟨l,rfl,p,O⟩:=y.cells;obtain⟨o,e4,g4,Y,n4⟩:=jV N.ok g3 (l':=l) p O;have Z:stN 4 (.ptr A6 0) (.agg l) K=some (jQ,o):=e4;have S:Prs h o:=N.fresh Y (fun c hB=>by have:=a.next;omega)
 obtain⟨u,e5,g5,s5,n5⟩:=jV S.ok (show o.h.get A4=some (.cells [.bool false, .nS, .nS, .nS] 119 1 false)by rw[Y.keep _ (by have:=m.next;omega) (by omega)];exact zRt m a.ok g2) (l':=l) p O
 have a0:stN 4 (.ptr A4 0) (.agg l) o=some (jQ,u):=e5;have T:Prs h u:=S.fresh s5 (fun c hB=>by have:=f.next;omega)
 have x:K.h.get z=some (.cells [.int .i64 (1:Nat), .int .i64 (0:Nat), .int .u64 (s:Nat)] 42 1 false):=zRt m a.ok (zRt j f.ok C);have a1:=zRt j f.ok C;have a2:o.h.get z=some (.cells [.int .i64 (1:Nat), .int .i64 (0:Nat), .int .u64 (s:Nat)] 42 1 false):=by rw[Y.keep _ (by have:=j.next;have:=m.next;omega) (by have:=j.next;omega)];exact x
 have a3:lkM [10] (.agg [.bool false, .nS, .nS, .nS]) true (.map w) (.int .u64 (s:Nat)) J=some (.tuple [.agg l, .bool true]):=by
  simp only[lkM,zQe,zP,zRt a At.ok At.gM,show Y4 [10] [10]=true from rfl,f1];rfl
 refine⟨.agg l,u, ?_,T,y.prs T,hm⟩;have a4: ¬(((0:Nat):Int)≠((0:Nat):Int)):=by omega
 have hp:jS (pp s)=[.int .i64 (1:Nat), .int .i64 (0:Nat), .int .u64 (s:Nat)]:=rfl;rw[hp];simp(maxSteps:=999999)(disch:=omega) only[f77,eZ,b1,b2,jM a1,jM x,jM a2,jM (zRt a At.ok At.gT),wN,a3,jN,nth,b3,Z,a4,gJ g4 p,a0,gJ g5 p]
theorem YF.free (H0:YF h F A i):vW h.next F A i:=by
 obtain⟨ks,vs,ps,rfl,a,f,j,m,_⟩:=H0;exact⟨⟨ks,vs,ps,rfl, .inl a, .inl f, .inl j⟩,fun B o=>m B (wO.1 o)⟩
theorem zOQ(hn:1000<=n){E:Ev}{Y:PN}(At:TI E h k w A .nP B H Y t q){body:Str}(ha:2<=s)(a1:s<E.nb)(hb:C<=2147483647)(hl:body.length<=500)(a0:Bk.blkAt s E.ws=some (Bk.sealB V C body)):
  ∃H',f122 D n [.ptr k 0, .agg (jS (fJ s C (Bk.sealB V C body)))] h=some (.tuple [.int .u8 V.toNat,S body, .int .i64 (0:Nat)],H')/\Prs h H':=by
 obtain⟨d,o⟩: ∃d,d=Bk.sealB V C body:=⟨_,rfl⟩;have p:=Bk.sealB_len (kind:=V) (birth:=C) hl;obtain⟨M,u,b1,f,z,m1,n1⟩:=box At.ok (.cells (jS (fJ s C d)) 42 1 false);obtain⟨Z,dr⟩: ∃Z:Str,Z=List.replicate 512 0:=⟨_,rfl⟩;have a2:Z.length=512:=by rw[dr];exact List.length_replicate
 have a3:rep 512 [AV.int .u8 (0:Nat)]=jO Z:=by rw[ZK,dr]
 obtain⟨H2,a9,b2,j,g2,m2,n2⟩:=box f.ok (.cells (jO Z) 55 1 false);have N1:=f.next;have N2:=j.next
 have h2:=(At.prs f).prs j;obtain⟨Ad,On,Nw,wv,ds,rfl,hd⟩:=h2.dk;obtain⟨H3,J,m⟩:=zJ4 D n j.ok hd a1;have a4:zJu s E.ws=d:=by rw[zJu,a0,o];rfl
 rw[a4]at J;rw[<-o]at p;obtain⟨x,e4,g4,K⟩:=stR m.ok (zRt m j.ok g2) a2 p;have N3:=m.next
 have y:Prs h x:=((f.trans j).trans m).fresh K fun d o=>by omega
 have a5:x.h.get u=some (.cells (jS (fJ s C d)) 42 1 false):=by
  rw[K.keep _ (by omega) (by omega)];exact zRt (j.trans m) f.ok z
 obtain⟨N,O,T⟩:=zLt D n hn y.ok V (at_:=s) (by omega) hb hl;rw[<-o]at O⊢;have h5:=(At.prs y).prs T;have c1:Eng.ld1 (.ptr k 1) M=some .nP:=by rw[jM (At.prs f).gT];rfl
 have a6:Eng.ld1 (.ptr k 0) M=some (.ptr Ad 0):=by rw[jM (At.prs f).gT];rfl
 have c5:Eng.ld1 (.ptr k 1) N=some .nP:=by rw[jM h5.gT];rfl
 have r1:Eng.ld1 (.ptr u 0) M=some (.int .i64 s):=by rw[jM z];rfl
 have a7:ldN 3 (.ptr u 0) x=some (.agg (jS (fJ s C d))):=by rw[jR a5];rfl
 have r4:=ldR g4 p;have a8: ¬(((0:Nat):Int)≠((0:Nat):Int)):=by omega
 refine⟨N, ?_,y.trans T⟩;simp(maxSteps:=999999)(disch:=omega) only[f122,zMN,zMM,eZ,b1,c1,cq,a6,r1,a3,b2,J,jN,nth,e4,a8,a7,r4,O,c5]
theorem zHi (m n:Nat)(hn:200000000<=n){E:Ev}{p:Ptr}{a1:PN}(At:TI E h k w A q B H a1 t I)(z:E.K p=some i):
  ∃v H',f77 (dy (m+1)) n [.ptr k 0, .agg (jS p)] h=some (.tuple [v, .int .i64 (0:Nat)],H')/\Prs h H'/\jZ H' v i/\ ∀d,xS v d->h.next<=d:=by
 have hc:q= .nP:=by
  rcases At.cn with e | e
  .exact e
  .rw[e]at z;cases z
 subst hc;obtain⟨a,birth,kind,body,rfl,ha,a3,_,hb,hl,a2,a0,O⟩:=zRn.1 z;obtain⟨d,f⟩: ∃d,d=Bk.sealB kind birth body:=⟨_,rfl⟩;obtain⟨H1,Z,b1,j,g1,m1,n1⟩:=box At.ok (.cells (jS (fJ a birth d)) 42 1 false);obtain⟨H2,A4,b2,o,g2,m2,n2⟩:=box j.ok (.cells [.bool false, .nS, .nS, .nS] 119 1 false);have N1:=j.next;have N2:=o.next
 have P2:=j.trans o;obtain⟨H3,M,x⟩:=zOQ (dy (m+1)) n (by omega) (At.prs P2) ha a3 hb hl a2;rw[<-f]at M⊢;obtain⟨v,H4,e4,y,hO,l,rfl,C,lc⟩:=zJ9 m n hn x.ok (decide (kind=1)) body;rw[O]at e4;have J:=(hO i O).free;have N3:=x.next;have N4:=y.next
 have P4:=(P2.trans x).trans y;obtain⟨H5,e5,g5,s5,n5⟩:=jV y.ok (zRt (x.trans y) o.ok g2) (l':=l) C lc;have T:stN 4 (.ptr A4 0) (.agg l) H4=some (jQ,H5):=e5;have u:f123 (dy (m+1)) n [.bool (decide (kind=1)),S body] H3=some (.tuple [.agg l, .int .i64 (0:Nat)],H4):=e4;have r1:Eng.ld1 (.ptr Z 0) H2=some (.int .i64 a):=by rw[jM (zRt o j.ok g1)];rfl
 have r3:ldN 3 (.ptr Z 0) H2=some (.agg (jS (fJ a birth d))):=by rw[jR (zRt o j.ok g1)];rfl
 have t1: ¬(a:Int)=((1:Nat):Int):=by omega
 have Y: ¬(((0:Nat):Int)≠((0:Nat):Int)):=by omega
 refine⟨.agg l,H5, ?_,P4.fresh s5 fun d f=>by omega,J.1.stp s5 fun d f e=> ?_,fun d f=> ?_⟩
 .rcases a0 with rfl | rfl
  .have k1:(((1:UInt8).toNat:Nat):Int)=((1:Nat):Int):=rfl;have N:decide ((1:UInt8)=1)=true:=rfl;have t11: ¬(((1:Nat):Int)≠((1:Nat):Int)):=by omega
   rw[k1]at M;rw[N]at u;simp(maxSteps:=999999)(disch:=omega) only[f77,eZ,b1,b2,r1,t1,r3,M,jN,nth,Y,t11,u,T,gJ g5 C]
  .have k1:(((2:UInt8).toNat:Nat):Int)=((2:Nat):Int):=rfl;have N:decide ((2:UInt8)=1)=false:=rfl;have t21:((2:Nat):Int)≠((1:Nat):Int):=by omega
   have t22: ¬(((2:Nat):Int)≠((2:Nat):Int)):=by omega
   have t23: ¬((2:Nat):Int)=((1:Nat):Int):=by omega
   rw[k1]at M;rw[N]at u;simp(maxSteps:=999999)(disch:=omega) only[f77,eZ,b1,b2,r1,t1,r3,M,jN,nth,Y,ne_eq,t23,yD,t22,u,T,gJ g5 C]
 .have:=J.2 d f;omega
 .have:=J.2 d f;omega
theorem zDc (m n:Nat)(j:200000000<=n){E:Ev}{p:Ptr}{d:PN}(At:TI E h k w A q B H d t I)(f:Qf E d [] p=some i):
  ∃v H',f77 (dy (m+1)) n [.ptr k 0, .agg (jS p)] h=some (.tuple [v, .int .i64 (0:Nat)],H')/\Prs h H'/\jZ H' v i/\((∃M,(M,v)∈H)\/ ∀c,xS v c->h.next<=c):=by
 rcases uK f with⟨s,rfl,a | ⟨_,a⟩⟩ | ⟨_,a⟩
 .simp[jX]at a
 .obtain⟨v,H',e,p,g,M⟩:=zBB (dy (m+1)) n At a;exact⟨v,H',e,p,g, .inl M⟩
 .obtain⟨v,H',e,p,g,M⟩:=zHi m n j At a;exact⟨v,H',e,p,g, .inr M⟩
variable {X:Nat->Prop}
structure Ch (X:Nat->Prop)(H0 H:AH)(At Ac F:Nat)(fes:List (AV×AV))(f:PN)(g:AV)(gl:List Ptr)(last0 last:Nat):Prop where
 prs:Prs H0 H
 gC:H.h.get Ac=some (.cells [.ptr At 0, .int .u64 (last:Nat), .map F,g] 242 1 false)
 gF:H.h.get F=some (.map [10] fes)
 pf:uL H fes f
 gg:Own 3 42 H g gl.length (gl.flatMap jS)
 gN: ∀B,Blk g B->H0.next<=B
 gf: ∀kv∈fes,∀B,xS kv.2 B-> ¬Blk g B
 dC:H0.next<=Ac
 dF:H0.next<=F
 ne:Ac≠F
 fs: ∀s nd,jX s f=some nd->last0<s/\s<=last
 le:last0<=last
 few:gl.length<=last+1000
 fd:(f.map Prod.fst).Nodup
 fl:f.length+last0<=last
 gx: ∀kv∈fes,∀B,xS kv.2 B-> ¬X B
 xo: ∀B,X B->B<H0.next
theorem fP {s:Nat} : ∀ {q:PN},s∈q.map Prod.fst-> ∃nd,jX s q=some nd
 | [],h=>by simp at h
 | (t,n)::q,h=>by
  simp only[jX];by_cases e:t=s
  .exact⟨n,if_pos e⟩
  .rw[if_neg e];simp only[yJ,zK]at h;exact fP (h.resolve_left fun a=>e a.symm)
def chg (a F:Nat)(g:AV)(B:Nat):Prop:=B=a\/B=F\/Blk g B
def Adv (a F:Nat)(H:AH)(g:AV)(H':AH)(f:AV):Prop:=Stp (chg a F g) H H'/\ ∀B,Blk f B->Blk g B\/H.next<=B
def xR (X:Nat->Prop)(H:AH)(g v:AV)(nd:Nd.Node):Prop:=jZ H v nd/\ ∀B,xS v B-> ¬Blk g B/\ ¬X B
def Adv.prs (g:AV)(s:Prs h F):Adv k w h g F g:=⟨s.mono (fun _ _ x=>x.elim),fun _ a=> .inl a⟩
theorem Adv.trans (j:k<h.next)(x:w<h.next)(H:Adv k w h A F q)(a:Adv k w F q P I):Adv k w h A P I:=by
 refine⟨⟨a.1.ok,qN H.1.next a.1.next,fun m j f=> ?_⟩,fun B t=> ?_⟩
 .rw[a.1.keep m (qG j H.1.next) (fun u=> ?_),H.1.keep m j f]
  rcases u with e | e | e
  .exact f (.inl e)
  .exact f (.inr (.inl e))
  .rcases H.2 m e with e | e
   .exact f (.inr (.inr e))
   .omega
 .have:=H.1.next
  rcases a.2 B t with e | e
  .exact H.2 B e
  .exact .inr (by omega)
def Ch.ltC {f:PN}(H0:Ch X h F k w t H f A v s C):w<F.next:=H0.prs.ok.lt H0.gC
def Ch.ltF {f:PN}(H0:Ch X h F k w t H f A v s C):t<F.next:=H0.prs.ok.lt H0.gF
def Ch.keep {f:PN}(H0:Ch X h F k w t H f q v s C)(a:xR X F q I i)(At:Stp (chg w t q) F P):jZ P I i:=
 a.1.stp At fun A j H'=>by
  rcases H' with rfl | rfl | e
  .exact a.1.nblk H0.gC (.inl ⟨_,_,_,_,rfl,fun _ _ e=>by cases e⟩) j
  .exact a.1.nblk H0.gF (.inr (.inl ⟨_,_,rfl⟩)) j
  .exact(a.2 A j).1 e
def Ch.next {f:PN}(H0:Ch X h F k w t H f A v s C)(a:xR X F A I i)(H':Adv w t F A P q):xR X P q I i:=
 ⟨H0.keep a H'.1,fun B j=>⟨fun u=>by
  rcases H'.2 B u with e | e
  .exact(a.2 B j).1 e
  .have:=a.1.lt j;omega,(a.2 B j).2⟩⟩
def Ch.step {f:PN}(H0:Ch X h F k w t H f A v s C)(H':Prs F P):Ch X h P k w t H f A v s C:=
 ⟨H0.prs.trans H',zRt H' H0.prs.ok H0.gC,zRt H' H0.prs.ok H0.gF,H0.pf.frame fun kv _ nd p=>p.prs H',H0.gg.mono H' (fun _ _ x=>x),H0.gN,H0.gf,H0.dC,H0.dF,H0.ne,H0.fs,H0.le,H0.few,H0.fd,H0.fl,H0.gx,H0.xo⟩
theorem xR.prs {H H':AH}{g v:AV}{nd:Nd.Node}(h:xR X H g v nd)(s:Prs H H'):xR X H' g v nd:=⟨h.1.prs s,h.2⟩
def vW.hand {f:PN}(H0:Ch X h F k w t H f A v s C)(x:F.next<=Y)(a:vW Y P q i):xR X P A q i:=
 ⟨a.1,fun B j=>⟨fun H'=>by have:=a.2 B j;have:=zRy H0.gg.row H';omega,fun u=>by have:=a.2 B j;have:=H0.xo B u;have:=H0.prs.next;omega⟩⟩
def jZ.hand {f:PN}(H0:Ch X h F k w t H f A v s C)(At:jZ P q i)(H': ∀B,xS q B->B<h.next)(u: ∀B,xS q B-> ¬X B):xR X P A q i:=
 ⟨At,fun B a=>⟨fun x=>by have:=H' B a;have:=H0.gN B x;omega,u B a⟩⟩
theorem bldQ (e:TypeId)(p:Ptr)(z:List AV)(a:z.length=3):dW e 3 1 z [(0, .agg (jS p))]=some (.cells (jS p) e 3 false,fun A=> .slice A 0 1 2):=by
 match z,a with
 | [_,_,_],_=>rfl
theorem zNq (p:Ptr):bC (jS p) 0 3=some (jS p):=rfl
theorem zIk{f:PN}(H0:Ch X h F k w t H f A v s C)(p:Ptr)(hl:v.length+1<=C+1000)(hb:C<=900000000):
  ∃u H',f130 D n [.ptr w 0, .agg (jS p)] F=some (.tuple [],H')/\Ch X h H' k w t H f u (v++[p]) s C/\Adv w t F A H' u:=by
 obtain⟨H1,A3,b1,Z,g1,m1,n1⟩:=box H0.prs.ok (.cells (jS p) 42 1 false);obtain⟨H2,A4,b2,p2,g2,m2,n2⟩:=box Z.ok (.cells (jS p) 42 3 false);have K:=Z.trans p2;have j:=H0.step K;have a1:srcOf 3 (.slice A4 0 1 2) H2=some (1,jS p):=by
  simp only[srcOf,g2];rfl
 obtain⟨u,H3,e3,o3,J,w3,N⟩:=zOV (bytes:=24) j.prs.ok (by decide) j.gg a1 rfl rfl (by omega) (by decide);have nC: ¬Blk A w:=fun a=>by
  obtain⟨_,⟨rfl,_⟩ | ⟨m,rfl,_,y⟩⟩:=j.gg
  .exact zRu.1 a
  .rw[<-zRl.1 a,j.gC]at y;simp at y
 have nF: ¬Blk A t:=fun a=>by
  obtain⟨_,⟨rfl,_⟩ | ⟨m,rfl,_,y⟩⟩:=j.gg
  .exact zRu.1 a
  .rw[<-zRl.1 a,j.gF]at y;simp at y
 have a3:H3.h.get w=some (.cells [.ptr k 0, .int .u64 (C:Nat), .map t,A] 242 1 false):=by rw[J.keep _ j.ltC nC];exact j.gC
 have a4:H3.h.get t=some (.map [10] H):=by rw[J.keep _ j.ltF nF];exact j.gF
 obtain⟨O,e4,g4,s4,n4⟩:=xM J.ok a3 (o:=3) (x:=u) o3.row.isCell (by simp);have a7: ∀B,Blk u B->B<H3.next:=fun B a=>zRy o3.row a
 have a5: ¬Blk u w:=fun a=>by
  rcases N w a with e | e
  .exact nC e
  .have:=j.ltC;omega
 have S2:Stp (chg w t A) H2 O:=(J.mono (fun _ _ x=> .inr (.inr x))).trans (s4.mono (fun _ _ x=> .inl x));have S:Stp (chg w t A) F O:=(K.mono (fun _ _ x=>x.elim)).trans S2;have a2:Adv w t F A O u:=⟨S,fun B a=>by
  rcases N B a with e | e
  .exact .inl e
  .have:=K.next;exact .inr (by omega)⟩
 have a6:(v++[p]).flatMap jS=v.flatMap jS++jS p:=by simp
 refine⟨u,O, ?_,⟨?_, ?_, ?_, ?_, ?_, ?_, ?_,H0.dC,H0.dF,H0.ne,H0.fs,H0.le,by simpa using hl,H0.fd,H0.fl,H0.gx,H0.xo⟩,a2⟩
 .have e1:=bldQ 42 p [.int .i64 (0:Nat), .int .i64 (0:Nat), .int .u64 (0:Nat)] rfl;simp(disch:=omega) only[f130,eZ,b1,jM (zRt Z H0.prs.ok H0.gC),jR g1,zNq,qB,e1,b2,e3,e4]
 .exact H0.prs.fresh S (fun B a=>by
   have:=H0.dC;have:=H0.dF;rcases a with e | e | e
   .omega
   .omega
   .exact H0.gN B e)
 .exact g4
 .rw[s4.keep _ (by have:=J.next;have:=j.ltF;omega) (fun e=>H0.ne e.symm)];exact a4
 .exact H0.pf.frame fun kv z nd hn=>H0.keep ⟨hn,fun B a=>⟨H0.gf kv z B a,H0.gx kv z B a⟩⟩ S
 .rw[a6];have:=o3.mono s4 (fun B a e=>a5 (e▸a));simpa using this
 .intro B a;rcases N B a with e | e
  .exact H0.gN B e
  .have:=j.prs.next;omega
 .intro kv z B a y;obtain⟨i,hi⟩:=List.mem_iff_getElem.1 z;have a8:B<F.next:=by
   have hp: ∀ {es:List (AV×AV)} {q:PN},uL F es q-> ∀kv∈es,∃nd,jZ F kv.2 nd:=by
    intro es
    induction es with
    | nil=>intro q _ kv H0;simp at H0
    | cons e es ih=>
     intro q T kv hk
     match q,T with
     | (At,nd)::q,T=>
      rcases zK.1 hk with rfl | hk
      .exact⟨nd,T.1.2⟩
      .exact ih T.2 kv hk
   obtain⟨nd,hn⟩:=hp H0.pf kv z;exact hn.lt a
  rcases N B y with e | e
  .exact H0.gf kv z B a e
  .have:=K.next;omega
theorem zJF{f:PN}(H0:Ch X h F k w t H f A v s C)(T:xR X F A q i)(hb:C<=900000000):
  ∃H',f127 D n [.ptr w 0,q] F=some (.agg (jS (pp (C+1))),H')/\Ch X h H' k w t (H++[(.int .u64 (C+1:Nat),q)]) (f++[(C+1,i)]) A v s (C+1)/\Adv w t F A H' A:=by
 obtain⟨l,rfl,ll,lc⟩:=T.1.cells;obtain⟨H1,A3,b1,Y,g1,m1,n1⟩:=box H0.prs.ok (.cells l 119 1 false);obtain⟨H2,A4,b2,p2,g2,m2,n2⟩:=box Y.ok (.cells [.int .i64 (0:Nat), .int .i64 (0:Nat), .int .u64 (0:Nat)] 42 1 false);have P2:=Y.trans p2;have z:=H0.step P2;obtain⟨u,e3,K,y,n3⟩:=xM z.prs.ok z.gC (o:=1) (x:= .int .u64 (C+1:Nat)) rfl (by simp);have K:u.h.get w=some (.cells [.ptr k 0, .int .u64 (C+1:Nat), .map t,A] 242 1 false):=K;have a1:u.h.get t=some (.map [10] H):=by rw[y.keep _ z.ltF (fun e=>H0.ne e.symm)];exact z.gF
 have a5:wB (.int .u64 (C+1:Nat)) H=none:=(H0.pf.find (C+1)).2 (by
  cases Z:jX (C+1) f with
  | none=>rfl
  | some a6=>have:=H0.fs _ _ Z;omega)
 have e4:upM [10] (.map t) (.int .u64 (C+1:Nat)) (.agg l) u=some (jQ,u.put t (.map [10] (H++[(.int .u64 (C+1:Nat), .agg l)]))):=by
  simp only[upM,zQe,zP,a1,show Y4 [10] [10]=true from rfl,setA_none a5,kT]
 have a2:(u.put t (.map [10] (H++[(.int .u64 (C+1:Nat), .agg l)]))).h.get t=some (.map [10] (H++[(.int .u64 (C+1:Nat), .agg l)])):=by rw[zRk,if_pos rfl]
 have gl:Stp (fun B=>B=t) u (u.put t (.map [10] (H++[(.int .u64 (C+1:Nat), .agg l)]))):=(zRo y.ok).put (y.ok.lt a1) _ (.inr rfl);generalize u.put t (.map [10] (H++[(.int .u64 (C+1:Nat), .agg l)]))=H4 at e4 a2 gl;have a3:H4.h.get w=some (.cells [.ptr k 0, .int .u64 (C+1:Nat), .map t,A] 242 1 false):=by rw[gl.keep _ (y.ok.lt K) H0.ne];exact K
 have b5:=H0.ltC;have b6:=H0.ltF;have N1:=Y.next;have N2:=p2.next;have N3:=y.next;have N4:=gl.next
 have a7:H4.h.get A4=some (.cells [.int .i64 (0:Nat), .int .i64 (0:Nat), .int .u64 (0:Nat)] 42 1 false):=by
  rw[gl.keep _ (by omega) (by omega),y.keep _ n2 (by omega)];exact g2
 have a8:ldN 4 (.ptr A3 0) u=some (.agg l):=gJ (e:=119) (by rw[y.keep _ (by omega) (by omega)];exact zRt p2 Y.ok g1) ll;obtain⟨N,e5,g5,J,n5⟩:=jV gl.ok a7 (l':=jS (pp (C+1))) rfl rfl;have a9:stN 3 (.ptr A4 0) (.agg (jS (pp (C+1)))) H4=some (jQ,N):=e5;have S4:Stp (chg w t A) F H4:=((P2.mono (fun _ _ x=>x.elim)).trans (y.mono (fun _ _ x=> .inl x))).trans (gl.mono (fun _ _ x=> .inr (.inl x)));have S5:Stp (chg w t A) F N:=⟨J.ok,qN S4.next J.next,fun At hA hS=>by rw[J.keep At (by omega) (by omega),S4.keep At hA hS]⟩
 have a4:Adv w t F A N A:=⟨S5,fun B m=> .inl m⟩;have b0:IntKind.wrap .u64 ((C:Int)+((1:Nat):Int))=((C+1:Nat):Int):=by rw[wrap_u64];omega
 have bs:vJ [(0,1),(1,1),(2,1)] [.int .i64 (0:Nat), .int .i64 (0:Nat), .int .u64 (0:Nat)] [(0, .int .i64 (1:Nat)),(2, .int .u64 (C+1:Nat))]=some (.agg (jS (pp (C+1)))):=rfl;have r5:ldN 3 (.ptr A4 0) N=some (.agg (jS (pp (C+1)))):=by rw[jR g5];rfl
 have b3:=H0.keep T S5;refine⟨N, ?_,⟨?_, ?_, ?_, ?_, ?_,H0.gN, ?_,H0.dC,H0.dF,H0.ne, ?_,by have:=H0.le;omega,by have:=H0.few;omega, ?_,by have:=H0.fl;simp;omega,fun kv p B m=> ?_,H0.xo⟩,a4⟩
 .simp(maxSteps:=999999)(disch:=omega) only[f127,eZ,b1,b2,jM z.gC,b0,e3,jM K,a8,e4,jM a3,bs,a9,r5]
 .exact H0.prs.fresh S5 (fun B m=>by
   have:=H0.dC;have:=H0.dF;rcases m with e | e | e
   .omega
   .omega
   .exact H0.gN B e)
 .rw[J.keep _ (by omega) (by omega)];exact a3
 .rw[J.keep _ (by omega) (by omega)];exact a2
 .exact uL.snoc b3 (H0.pf.frame fun kv p i hn=>H0.keep ⟨hn,fun B m=>⟨H0.gf kv p B m,H0.gx kv p B m⟩⟩ S5)
 .have nC: ∀B,Blk A B-> ¬B=w:=fun B m e=>by
   subst e;obtain⟨_,⟨rfl,_⟩ | ⟨At,rfl,_,O⟩⟩:=H0.gg
   .exact zRu.1 m
   .rw[<-zRl.1 m,H0.gC]at O;simp at O
  have nF: ∀B,Blk A B-> ¬B=t:=fun B m e=>by
   subst e;obtain⟨_,⟨rfl,_⟩ | ⟨At,rfl,_,O⟩⟩:=H0.gg
   .exact zRu.1 m
   .rw[<-zRl.1 m,H0.gF]at O;simp at O
  exact(((z.gg.mono y nC).mono gl nF).mono J (fun B m e=>by have:=zRy H0.gg.row m;omega))
 .intro kv p B m;rcases qA.1 p with p | p
  .exact H0.gf kv p B m
  .simp only[qS]at p;subst p;exact(T.2 B m).1
 .intro g a6 S;rw[v8]at S
  cases Z:jX g f with
  | some b4=>have:=H0.fs _ _ Z;omega
  | none=>
   rw[Z]at S;simp only[jX]at S;split at S
   .have:=H0.le;omega
   .cases S
 .rw[List.map_append,List.nodup_append];refine⟨H0.fd,by simp,fun a ha b hb e=> ?_⟩;simp only[yJ,List.map_nil,qS]at hb;subst hb;subst e;obtain⟨b4,z⟩:=fP ha;have:=H0.fs _ _ z;omega
 .rcases qA.1 p with p | p
  .exact H0.gx kv p B m
  .simp only[qS]at p;subst p;exact(T.2 B m).2
inductive CutsN:Nd.Node->List Nd.Node->List Str->Prop
 | one {nd:Nd.Node} :Nd.size nd<=500->CutsN nd [nd] []
 | more {nd:Nd.Node} {k:Nat} {ps:List Nd.Node} {ss:List Str} :500<Nd.size nd->cutOk nd k->hbnd nd k->CutsN (QD nd k) ps ss->CutsN nd (cutA nd k::ps) (nd.keys.getD k []::ss)
def Par (H:AH):List (List AV)->List Nd.Node->Prop
 | [],[]=>True
 | l::vs,nd::nds=>(l.length=4/\jP l=true/\jZ H (.agg l) nd)/\Par H vs nds
 | _,_=>False
theorem Par.len {H:AH} : ∀ {vs:List (List AV)} {j:List Nd.Node},Par H vs j->vs.length=j.length/\vs.flatten.length=j.length*4/\jP vs.flatten=true
 | [],[],_=>⟨rfl,rfl,rfl⟩
 | l::vs,_::j,h=>by
  obtain⟨a,b,c⟩:=Par.len h.2;refine⟨by simp[a], ?_, ?_⟩
  .rw[List.flatten_cons,zV,b,h.1.1,zT];omega
  .rw[List.flatten_cons,wJ];intro x f;rcases qA.1 f with f | f
   .exact wJ.1 h.1.2.1 x f
   .exact wJ.1 c x f
 | [],_::_,h=>h.elim
 | _::_,[],h=>h.elim
theorem Par.frame {H H':AH} : ∀ {vs:List (List AV)} {a:List Nd.Node},Par H vs a->(∀l∈vs,∀nd,jZ H (.agg l) nd->jZ H' (.agg l) nd)->Par H' vs a
 | [],[],_,_=>trivial
 | l::vs,nd::a,h,hf=>⟨⟨h.1.1,h.1.2.1,hf l (zJ ..) nd h.1.2.2⟩,Par.frame h.2 fun l hl=>hf l (zC _ hl)⟩
 | [],_::_,h,_=>h.elim
 | _::_,[],h,_=>h.elim
theorem Par.snoc {H:AH}{l:List AV}{nd:Nd.Node}(f:l.length=4/\jP l=true/\jZ H (.agg l) nd): ∀ {vs:List (List AV)} {a:List Nd.Node},Par H vs a->Par H (vs++[l]) (a++[nd])
 | [],[],_=>⟨f,trivial⟩
 | _::vs,_::a,h=>⟨h.1,Par.snoc f h.2⟩
 | [],_::_,h=>h.elim
 | _::_,[],h=>h.elim
theorem Par.mem {H:AH} : ∀ {vs:List (List AV)} {a:List Nd.Node} {l:List AV},Par H vs a->l∈vs-> ∃nd,jZ H (.agg l) nd
 | [],[],_,_,hl=>by simp at hl
 | k::vs,nd::a,l,h,hl=>by
  rcases zK.1 hl with rfl | hl
  .exact⟨nd,h.1.2.2⟩
  .exact Par.mem h.2 hl
 | [],_::_,_,h,_=>h.elim
 | _::_,[],_,h,_=>h.elim
theorem zR3 (e:TypeId)(l:List AV)(hl:l.length=4)(z:List AV)(a:z.length=4):dW e 4 1 z [(0, .agg l)]=some (.cells l e 4 false,fun A=> .slice A 0 1 2):=by
 match z,a with
 | [_,_,_,_],_=>match l,hl with
  | [_,_,_,_],_=>rfl
theorem src4 (H:h.h.get k=some (.cells l w 4 N))(hl:l.length=4)(cc:Nat):srcOf 4 (.slice k 0 1 cc) h=some (1,l):=by
 simp only[srcOf,H,wC _ _ _ (.inr (show 0+1*4<=l.length by omega)),yL,zY (show l.length<=1*4 by omega)]
theorem WM (h:Nd.shaped ltS i=true)(j:500<Nd.size i):gP i:=by
 have f: ∀k∈i.keys,k.length<=40:=fun k f=>by
  simp only[Nd.shaped,zE,yE]at h;have:=h.1.1 k f;simp only[Nd.mayK,zE,zR]at this;omega
 have b1: ∀(c:Nat) (l:List Str),(∀k∈l,k.length<=c)->sumL l<=(c+1)*l.length:=by
  intro c l
  induction l with
  | nil=>simp[sumL]
  | cons a l ih=>
   intro h;have:=ih fun k f=>h k (zC _ f)
   have:=h a (zJ ..);rw[Nd.sumL_cons,zT,Nat.mul_succ];omega
 have k1:=b1 40 i.keys f;simp only[Nd.size]at j
 cases hl:i.leaf with
 | true=>
  simp only[Nd.shaped,hl,if_true,zE,zR,yE]at h;have k2:=b1 200 i.vals fun v m=>h.2.2 v m
  rw[h.2.1.2,yG]at j;rw[h.2.1.1]at k2;exact⟨by omega, .inl hl⟩
 | false=>
  simp only[Nd.shaped,hl,zL,qD,zE,zR]at h;rw[h.2.1.1.2]at j;have:sumL []=0:=rfl;rw[h.2.1.2]at j;exact⟨by omega, .inr (by omega)⟩
theorem vI (h:Nd.size i<=10000):small i:=by
 simp only[Nd.size]at h;exact⟨by omega,by omega,by omega⟩
theorem zCt(hn:200000000<=n)(hk:h.ok)(H:jZ h A i)(f6:Nd.shaped ltS i=true)(hz:Nd.size i<=10000):
  ∃pv j H' vs p q,f177 D n [A] h=some (.tuple [pv,j, .int .i64 (0:Nat)],H')/\Prs h H'/\CutsN i p q/\Own 4 119 H' pv p.length vs.flatten/\Par H' vs p/\Own 1 9 H' j q.length (q.map S)/\
   (∀B,Blk pv B->h.next<=B)/\(∀B,Blk j B->h.next<=B)/\ ∀l∈vs,∀B,xS (.agg l) B->xS A B\/h.next<=B:=by
 obtain⟨l0,rfl,f7,f8⟩:=H.cells;obtain⟨H1,A1,b1,p1,g1,m1,n1⟩:=box hk (.cells l0 119 1 false);have lp:Fin (kJ n (zCi D n) [.ptr A1 0, .nS, .nS] H1) fun x H'=> ∃l m vs p q pv j,x= .exit 0 [.ptr A1 0,pv,j]/\Prs h H'/\H'.h.get A1=some (.cells l 119 1 false)/\l.length=4/\jP l=true/\jZ H' (.agg l) m/\Nd.size m<=500/\
   (∀a4 a5,CutsN m a4 a5->CutsN i (p++a4) (q++a5))/\Own 4 119 H' pv p.length vs.flatten/\Par H' vs p/\Own 1 9 H' j q.length (q.map S)/\(∀B,Blk pv B->h.next<=B)/\(∀B,Blk j B->h.next<=B)/\
   (∀B,xS (.agg l) B->xS (.agg l0) B\/h.next<=B)/\(∀l∈vs,∀B,xS (.agg l) B->xS (.agg l0) B\/h.next<=B)/\p.length<=10000:=by
  refine Fin.loop (fun k us H'=> ∃l m vs p q pv j,us=[.ptr A1 0,pv,j]/\Prs h H'/\H'.h.get A1=some (.cells l 119 1 false)/\l.length=4/\jP l=true/\jZ H' (.agg l) m/\Nd.shaped ltS m=true/\
   (∀a4 a5,CutsN m a4 a5->CutsN i (p++a4) (q++a5))/\Own 4 119 H' pv p.length vs.flatten/\Par H' vs p/\Own 1 9 H' j q.length (q.map S)/\(∀B,Blk pv B->h.next<=B)/\(∀B,Blk j B->h.next<=B)/\
   (∀B,xS (.agg l) B->xS (.agg l0) B\/h.next<=B)/\(∀l∈vs,∀B,xS (.agg l) B->xS (.agg l0) B\/h.next<=B)/\(∀B,xS (.agg l) B-> ¬Blk j B)/\(∀l∈vs,∀B,xS (.agg l) B-> ¬Blk j B)/\q.length=p.length/\p.length+Nd.size m<=10000/\k=Nd.size m) ?_ n (Nd.size i) _ H1
   ⟨l0,i,[],[],[], .nS, .nS,rfl,p1,g1,f7,f8,H.prs p1,f6,fun _ _ H=>H,zRw ..,trivial,zRw ..,fun B f=>(zRu.1 f).elim,fun B f=>(zRu.1 f).elim,fun B f=> .inl f,by simp,fun B _ f=>(zRu.1 f).elim,by simp,rfl,by simpa using hz,rfl⟩ (by omega)
  rintro k us H' ⟨l,m,vs,p,q,pv,j,rfl,P,gA,Y,lc,hG,b2,b6,Z,a9,oS,bP,bS,bl,b7,al,f9,e0,i5,rfl⟩
  have d3:small m:=vI (by omega);obtain⟨z,H2,e2,rfl,N⟩:=WL D n P.ok hG.node d3 hn;have P2:=P.trans N;have g2:=zRt N P.ok gA;by_cases d0:500<Nd.size m
  case neg=>
   have c2: ¬((500:Nat):Int)< ((Nd.size m:Nat):Int):=by omega
   refine⟨.exit 0 [.ptr A1 0,pv,j],H2, ?_,l,m,vs,p,q,pv,j,rfl,P2,g2,Y,lc,hG.prs N,by omega,b6,Z.mono N (fun _ _ x=>x),a9.frame (fun l hl i hn=>hn.prs N),oS.mono N (fun _ _ x=>x),bP,bS,bl,b7,by omega⟩;simp(disch:=omega) only[zCi,eZ,gJ gA Y,e2,c2]
  case pos=>
  have c2:((500:Nat):Int)< ((Nd.size m:Nat):Int):=by omega
  have g0:=WM b2 d0;obtain⟨va,sep,vb,e,H3,e3,T,hc⟩:=zQR D n hn P2.ok (hG.prs N) d3;rcases hc with⟨rfl,k,_,c3,hb,rfl,ga,gb⟩ | ⟨_,_,g9,_⟩
  case inr=>exact absurd ⟨b2,g0⟩ g9
  have P3:=P2.trans T;have d4:Prs H' H3:=N.trans T;obtain⟨la,rfl,b0,c4⟩:=ga.1.cells;obtain⟨lb,rfl,c5,c6⟩:=gb.1.cells;obtain⟨H4,A7,b4,p4,g4,m4,n4⟩:=box P3.ok (.cells [.bool false, .nS, .nS, .nS] 119 1 false);obtain⟨H5,A9,b5,p5,g5,m5,n5⟩:=box p4.ok (.cells [.bool false, .nS, .nS, .nS] 119 1 false);obtain⟨H6,e6,g6,s6,n6⟩:=jV p5.ok (zRt p5 p4.ok g4) (l':=la) b0 c4;have h0:stN 4 (.ptr A7 0) (.agg la) H5=some (jQ,H6):=e6;obtain⟨H7,e7,g7,s7,n7⟩:=jV s6.ok (show H6.h.get A9=some (.cells [.bool false, .nS, .nS, .nS] 119 1 false)by rw[s6.keep _ n5 (by omega)];exact g5) (l':=lb) c5 c6;have h1:stN 4 (.ptr A9 0) (.agg lb) H6=some (jQ,H7):=e7;have N3:=d4.next;have N4:=p4.next;have N5:=p5.next
  have d5:Prs H3 H7:=((p4.trans p5).fresh s6 (fun B f=>by omega)).fresh s7 (fun B f=>by omega);have h2:H7.h.get A7=some (.cells la 119 1 false):=by rw[s7.keep _ (by omega) (by omega)];exact g6
  obtain⟨H8,i7,b8,p8,g8,m8,n8⟩:=box d5.ok (.cells la 119 4 false);have a6:Prs H3 H8:=d5.trans p8;have a0:Prs H' H8:=d4.trans a6;obtain⟨H9,e9,o9,O,n9⟩:=gH (bytes:=80) a6.ok (by decide) (Z.mono a0 (fun _ _ x=>x)) (src4 g8 b0 2) (by omega) c4 (by omega) (by omega) (by decide);have N8:=a6.next
  have nP: ∀(l:List AV) (i:Nd.Node),jZ H8 (.agg l) i-> ∀B,xS (.agg l) B-> ¬Blk pv B:=fun l i t B f hp=>by
   obtain⟨_,⟨rfl,_⟩ | ⟨C,rfl,_,y⟩⟩:=Z.mono a0 (fun _ _ x=>x)
   .exact zRu.1 hp
   .rw[zRl.1 hp]at f;exact t.nblk y (.inr (.inr ⟨_,_,_,_,rfl,by decide,by decide⟩)) f
  have d6:=oS.mono a0 (fun _ _ x=>x);have c7: ∀B,Blk j B-> ¬Blk pv B:=fun B f hp=>by
   obtain⟨_,⟨rfl,_⟩ | ⟨C,rfl,_,y⟩⟩:=Z.mono a0 (fun _ _ x=>x)
   .exact zRu.1 hp
   .obtain⟨_,⟨rfl,_⟩ | ⟨E,rfl,_,c8⟩⟩:=d6
    .exact zRu.1 f
    .rw[<-zRl.1 hp,zRl.1 f,c8]at y;simp at y
  obtain⟨b9,h3,h4,J,h5,i8,i9⟩:=box O.ok (.cells [S (m.keys.getD k [])] 9 1 false);have e1:=(d6.mono O c7).mono J (fun _ _ x=>x);have e5:srcOf 1 (.slice h3 0 1 2) b9=some (1,[S (m.keys.getD k [])]):=by
   have:=Rw.srcOf (Rw.lit (cc:=2) J.ok h5);exact this
  obtain⟨a7,h6,h7,a3,j0⟩:=gH (bytes:=16) J.ok (by decide) e1 e5 rfl rfl (by omega) (by omega) (by decide);have i6:A1<H'.next:=P.ok.lt gA
  have fr: ∀(l:List AV) (i:Nd.Node),jZ H8 (.agg l) i->(∀B,xS (.agg l) B-> ¬Blk j B)->jZ a7 (.agg l) i:=fun l i t ha=>
   ((t.stp O (nP l i t)).prs J).stp a3 ha
  have d1: ∀B,Blk j B->B<H3.next:=fun B f=>by have:=zRy oS.row f;omega
  have d7:=ga.1.prs a6;have d8:=gb.1.prs a6;have fA: ∀B,xS (.agg la) B-> ¬Blk j B:=fun B f hs=>by have:=ga.2 B f;have:=zRy oS.row hs;have:=N.next;omega
  have fB: ∀B,xS (.agg lb) B-> ¬Blk j B:=fun B f hs=>by have:=gb.2 B f;have:=zRy oS.row hs;have:=N.next;omega
  have f1:=fr la _ d7 fA;have f2:=fr lb _ d8 fB;have c9: ∀(l:List AV) (i:Nd.Node),jZ H8 (.agg l) i-> ∀B,xS (.agg l) B->B<b9.next:=fun l i t B f=>by have:=t.lt f;have:=O.next;have:=J.next;omega
  have d2:a7.h.get A1=some (.cells l 119 1 false):=by
   have e8:H8.h.get A1=some (.cells l 119 1 false):=zRt a0 P.ok gA;have np: ¬Blk pv A1:=fun hp=>by
    obtain⟨_,⟨rfl,_⟩ | ⟨C,rfl,_,y⟩⟩:=Z
    .exact zRu.1 hp
    .rw[<-zRl.1 hp,gA]at y;simp at y
   have ns: ¬Blk j A1:=fun hp=>by
    obtain⟨_,⟨rfl,_⟩ | ⟨C,rfl,_,y⟩⟩:=oS
    .exact zRu.1 hp
    .rw[<-zRl.1 hp,gA]at y;simp at y
   rw[a3.keep _ (by have:=O.next;have:=J.next;omega) ns,J.keep _ (by have:=O.next;omega) (fun x=>x),O.keep _ (by omega) np];exact e8
  obtain⟨c0,d9,h8,c1,j1⟩:=jV a3.ok d2 (l':=lb) (by omega) c6;have f3:stN 4 (.ptr A1 0) (.agg lb) a7=some (jQ,c0):=by rw[Y]at d9;exact d9
  have r9:ldN 4 (.ptr A9 0) a7=some (.agg lb):=gJ (e:=119) (by
   have np: ¬Blk pv A9:=fun hp=>by have:=zRy Z.row hp;omega
   have ns: ¬Blk j A9:=fun hp=>by have:=d1 _ hp;omega
   rw[a3.keep _ (by have:=O.next;have:=J.next;have:=p8.next;omega) ns,J.keep _ (by have:=O.next;have:=p8.next;omega) (fun x=>x),O.keep _ (by have:=p8.next;omega) np,p8.keep _ (by omega) (fun x=>x)];exact g7) c5
  have a8: ∀(u:List AV) (K:Nd.Node),jZ a7 (.agg u) K->jZ c0 (.agg u) K:=fun u K t=>t.stp c1 (fun B f e=>by
   subst e;have: ∃x r,l=x::r/\ ∀a b,x≠ .str a b:=by
    obtain⟨ks,vs',ps,ee,_⟩:=hG;simp only[AV.agg.injEq]at ee;exact⟨_,_,ee,fun _ _ e=>by cases e⟩
   obtain⟨x,r,rfl,hx⟩:=this;exact t.nblk d2 (.inl ⟨x,r,_,_,rfl,hx⟩) f)
  have Pn:Prs h c0:=by
   have a1:Prs h H9:=(P3.trans a6).fresh O bP;have a2:Prs h a7:=(a1.trans J).fresh a3 bS;exact a2.fresh c1 (fun B f=>by omega)
  have f4:=Nd.cut_size b2 c3;have h9:=Nd.cut_shaped b2 c3;have N9:=O.next;have j2:=J.next;have j3:=a3.next
  have PN:=P.next
  refine⟨.norm [.ptr A1 0, .slice H8.next 0 (p.length+1) 1, .slice b9.next 0 (q.length+1) 1],c0, ?_,Nd.size (QD m k),f4.2,lb,QD m k,vs++[la],p++[cutA m k],q++[m.keys.getD k []], .slice H8.next 0 (p.length+1) 1, .slice b9.next 0 (q.length+1) 1,rfl,Pn,h8,c5,c6,a8 _ _ f2,h9.2,fun a4 a5 i0=> ?_, ?_, ?_, ?_,fun B f=> ?_,fun B f=> ?_,fun B f=> ?_,fun u o B f=> ?_,fun B f hs=> ?_,fun u o B f hs=> ?_,by simp[e0], ?_,rfl⟩
  .simp(maxSteps:=999999)(disch:=omega) only[zCi,eZ,gJ gA Y,e2,c2,gJ g2 Y,e3,jN,nth,b4,b5,h0,h1,ne_eq,not_true_eq_false,gJ h2 b0,zR3 119 la b0 [.bool false, .nS, .nS, .nS] rfl,zT,yG,b8,e9,zNE 9 (.str 0 0) (JY (m.keys.getD k [])),h4,h6,r9,f3]
  .rw[zZ,zZ];exact b6 _ _ (.more d0 c3 hb i0)
  .have i1:=((o9.mono J (fun _ _ x=>x)).mono a3 (fun B f hs=>by rw[zRl.1 f]at hs;have:=d1 _ hs;omega)).mono c1 (fun B f e=>by rw[zRl.1 f]at e;omega);simpa using i1
  .refine Par.snoc ⟨b0,c4,a8 _ _ f1⟩ (a9.frame fun u o K t=>a8 _ _ (fr u K (t.prs a0) (f9 u o)))
  .have f5:=h7.mono c1 (fun B f e=>by rw[zRl.1 f]at e;omega);simpa using f5
  .rw[zRl.1 f];omega
  .rw[zRl.1 f];omega
  .exact .inr (by have:=gb.2 B f;have:=N.next;omega)
  .rcases qA.1 o with o | o
   .exact b7 u o B f
   .simp only[qS]at o;subst o;exact .inr (by have:=ga.2 B f;have:=N.next;omega)
  .rw[zRl.1 hs]at f;have:=c9 _ _ d8 _ f;omega
  .rw[zRl.1 hs]at f;rcases qA.1 o with o | o
   .obtain⟨K,i2⟩:=a9.mem o;have:=c9 _ _ (i2.prs a0) _ f;omega
   .simp only[qS]at o;subst o;have:=c9 _ _ d7 _ f;omega
  .simp only[zV,zT,yG];omega
 obtain⟨x,H2,e2,l,m,vs,p,q,pv,j,rfl,P,gA,Y,lc,hG,i3,b6,Z,a9,oS,bP,bS,bl,b7,i4⟩:=lp;obtain⟨H3,A3,b3,T,g3,m3,n3⟩:=box P.ok (.cells l 119 4 false);obtain⟨H4,e4,o4,s4,n4⟩:=gH (bytes:=80) T.ok (by decide) (Z.mono T (fun _ _ x=>x)) (src4 g3 Y 2) (by omega) lc (by omega) (by omega) (by decide);have nP: ∀(l:List AV) (i:Nd.Node),jZ H3 (.agg l) i-> ∀B,xS (.agg l) B-> ¬Blk pv B:=fun l i t B f hp=>by
  obtain⟨_,⟨rfl,_⟩ | ⟨C,rfl,_,y⟩⟩:=Z.mono T (fun _ _ x=>x)
  .exact zRu.1 hp
  .rw[zRl.1 hp]at f;exact t.nblk y (.inr (.inr ⟨_,_,_,_,rfl,by decide,by decide⟩)) f
 have c7: ∀B,Blk j B-> ¬Blk pv B:=fun B f hp=>by
  obtain⟨_,⟨rfl,_⟩ | ⟨C,rfl,_,y⟩⟩:=Z
  .exact zRu.1 hp
  .obtain⟨_,⟨rfl,_⟩ | ⟨E,rfl,_,c8⟩⟩:=oS
   .exact zRu.1 f
   .rw[<-zRl.1 hp,zRl.1 f,c8]at y;simp at y
 have a8: ∀(u:List AV) (K:Nd.Node),jZ H2 (.agg u) K->jZ H4 (.agg u) K:=fun u K t=>(t.prs T).stp s4 (nP u K (t.prs T))
 have N3:=T.next;have PN:=P.next
 refine⟨.slice H3.next 0 (p.length+1) 1,j,H4,vs++[l],p++[m],q, ?_,(P.trans T).fresh s4 bP, ?_, ?_,Par.snoc ⟨Y,lc,a8 _ _ hG⟩ (a9.frame fun u o K t=>a8 _ _ t),(oS.mono T (fun _ _ x=>x)).mono s4 c7,fun B f=> ?_,bS,fun u o B f=> ?_⟩
 .simp(maxSteps:=999999)(disch:=omega) only[f177,eZ,b1,e2,zMJ,gJ gA Y,zR3 119 l Y [.bool false, .nS, .nS, .nS] rfl,zT,yG,b3,e4]
 .have:=b6 [m] [] (.one i3);rwa[yB]at this
 .simpa using o4
 .rw[zRl.1 f];omega
 .rcases qA.1 o with o | o
  .exact b7 u o B f
  .simp only[qS]at o;subst o;exact bl B f
end Go.Eng.Sh
namespace Go.Eng
def Own.ne (e:Own k w h A t l)(a:h.h.get s=some U)(j: ∀l w g,U≠ .cells l w k g): ¬Blk A s:=fun f=>by
 obtain⟨_,⟨rfl,_⟩ | ⟨B,rfl,_,m⟩⟩:=e
 .exact zRu.1 f
 .rw[zRl.1 f]at a;rw[m]at a;exact j _ _ _ (qT a).symm
theorem Own.get {k e n:Nat}{H:AH}{v:AV}{l:List AV}(h:Own k e H v n l){B:Nat}(a:Blk v B):H.h.get B=some (.cells l e k true):=by
 obtain⟨_,⟨rfl,_⟩ | ⟨C,rfl,_,f⟩⟩:=h
 .exact(zRu.1 a).elim
 .rw[zRl.1 a];exact f
def zRx:=@Own.get
end Go.Eng
namespace Go.Eng.Sh
variable {X:Nat->Prop}
def vC (a:Nat):List Nd.Node->PN
 | []=>[]
 | nd::nds=>(a+1,nd)::vC (a+1) nds
def VI (a:Nat):List (List AV)->List (AV×AV)
 | []=>[]
 | l::vs=>(.int .u64 (a+1:Nat), .agg l)::VI (a+1) vs
def pps (a:Nat):Nat->List Ptr
 | 0=>[]
 | n+1=>pp (a+1)::pps (a+1) n
theorem BZ (x:Nd.Node): ∀(l:List Nd.Node) (f:Nat),vC f (l++[x])=vC f l++[(f+l.length+1,x)]
 | [],f=>rfl
 | a::l,f=>by
  simp only[qF,vC,BZ x l,zT];rw[show f+1+l.length+1=f+(l.length+1)+1 from by omega]
theorem zA0 (x:List AV): ∀(l:List (List AV)) (f:Nat),VI f (l++[x])=VI f l++[(.int .u64 (f+l.length+1:Nat), .agg x)]
 | [],f=>rfl
 | a::l,f=>by
  simp only[qF,VI,zA0 x l,zT];rw[show f+1+l.length+1=f+(l.length+1)+1 from by omega]
theorem zEl: ∀(n a:Nat),pps a (n+1)=pps a n++[pp (a+n+1)]
 | 0,a=>rfl
 | n+1,a=>by
  rw[pps,zEl n (a+1),pps,qF,show a+1+n+1=a+(n+1)+1 from by omega]
theorem YQ: ∀(n a:Nat),(pps a n).length=n
 | 0,_=>rfl
 | n+1,a=>by simp[pps,YQ n (a+1)]
theorem zBP: ∀ {vs:List (List AV)} {a:Nat} {kv:AV×AV},kv∈VI a vs-> ∃l∈vs,kv.2= .agg l
 | [],_,_,h=>by simp[VI]at h
 | l::vs,a,kv,h=>by
  rcases zK.1 h with rfl | h
  .exact⟨l,zJ ..,rfl⟩
  .obtain⟨l',f,j⟩:=zBP h;exact⟨l',zC _ f,j⟩
def Ch.other {f:PN}(H0:Ch X h F k w t H f A v s C)(At:Stp Q F P)(H': ¬Q w)(u: ¬Q t)(x: ∀B,Blk A B-> ¬Q B)(y: ∀kv∈H,∀B,xS kv.2 B-> ¬Q B)(z: ∀B,Q B->h.next<=B):Ch X h P k w t H f A v s C:=
 ⟨H0.prs.fresh At z,by rw[At.keep _ H0.ltC H'];exact H0.gC,by rw[At.keep _ H0.ltF u];exact H0.gF,H0.pf.frame fun kv p nd q=>q.stp At (y kv p),H0.gg.mono At x,H0.gN,H0.gf,H0.dC,H0.dF,H0.ne,H0.fs,H0.le,H0.few,H0.fd,H0.fl,H0.gx,H0.xo⟩
theorem uL.mem {H:AH} : ∀ {es:List (AV×AV)} {q:PN},uL H es q-> ∀kv∈es,∃nd,jZ H kv.2 nd
 | [],[],_,_,a=>by simp at a
 | e::es,(t,nd)::q,hq,kv,a=>by
  rcases zK.1 a with rfl | a
  .exact⟨nd,hq.1.2⟩
  .exact uL.mem hq.2 kv a
 | [],_::_,h,_,_=>h.elim
 | _::_,[],h,_,_=>h.elim
theorem zMk {H:AH} : ∀ {vs:List (List AV)} {a:List Nd.Node} {i:Nat} (_:Par H vs a) (hi:i<a.length),∃l nd,vs[i]? =some l/\a[i]? =some nd/\l.length=4/\jP l=true/\jZ H (.agg l) nd/\(vs.flatten.drop (i*4)).take 4=l/\vs.take (i+1)=vs.take i++[l]/\a.take (i+1)=a.take i++[nd]
 | [],[],_,_,hi=>by simp at hi
 | l::vs,nd::a,0,h,_=>⟨l,nd,rfl,rfl,h.1.1,h.1.2.1,h.1.2.2,by simp[List.take_append_of_le_length,h.1.1,zY],rfl,rfl⟩
 | k::vs,m::a,i+1,h,hi=>by
  obtain⟨l,nd,f,j,o,p,q,t,u,x⟩:=zMk h.2 (by simpa using hi);refine⟨l,nd,f,j,o,p,q, ?_,by simp[u],by simp[x]⟩;rw[List.flatten_cons,List.drop_append,show(i+1)*4 - k.length=i*4 from by rw[h.1.1];omega,qO (by rw[h.1.1];omega),qX];exact t
 | [],_::_,_,h,_=>h.elim
 | _::_,[],_,h,_=>h.elim
theorem zCS(hn:200000000<=n){f:PN}(H0:Ch X h F k w t H f A v s C)
  (hp:Own 4 119 F q M.length R.flatten) (hv:Par F R M) (hg: ∀l∈R,∀B,xS (.agg l) B-> ¬Blk A B/\ ¬X B) (hb:C+M.length<=900000000) (hm:M.length<=10000):
  ∃kv H',f179 D n [.ptr w 0,q] F=some (kv,H')/\Ch X h H' k w t (H++VI C R) (f++vC C M) A v s (C+M.length)/\Adv w t F A H' A/\Own 3 42 H' kv M.length ((pps C M.length).flatMap jS)/\ ∀B,Blk kv B->F.next<=B:=by
 have a2:=hv.len.1;have lp:=uF (b:=BA D n) M.length (fun i us H'=> ∃kv,us=[.ptr w 0,kv,q, .int .i64 (M.length:Nat), .int .i64 (i:Nat)]/\Ch X h H' k w t (H++VI C (R.take i)) (f++vC C (M.take i)) A v s (C+i)/\Adv w t F A H' A/\
   Own 3 42 H' kv i ((pps C i).flatMap jS)/\ ∀B,Blk kv B->F.next<=B) (fun i us H' hi ⟨kv,hus,Z,J,ho,o⟩=>by
  subst hus;obtain⟨l,nd,v1,v2,ll,lc,hG,a8,a9,b0⟩:=zMk hv hi;have c3:i<R.length:=by omega
  have b2:l∈R:=List.mem_of_getElem? v1;have hA:=H0.next ⟨hG,hg l b2⟩ J
  have b3:Own 4 119 H' q M.length R.flatten:=hp.mono J.1 (fun B o p=>by
   have y:=hp.get o;rcases p with rfl | rfl | e
   .rw[H0.gC]at y;simp at y
   .rw[H0.gF]at y;simp at y
   .rw[H0.gg.get e]at y;simp at y)
  obtain⟨u,i1,i2⟩:=Rw.ldN b3.row hi;rw[a8]at i2;obtain⟨H1,A7,b1,p1,g1,m1,n1⟩:=box Z.prs.ok (.cells [.bool false, .nS, .nS, .nS] 119 1 false);obtain⟨H2,e2,g2,s2,n2⟩:=jV p1.ok g1 (l':=l) ll lc;have b5:stN 4 (.ptr A7 0) (.agg l) H1=some (jQ,H2):=e2;have K:Prs H' H2:=p1.fresh s2 (fun B o=>by omega);have b6:=Z.step K;obtain⟨H3,e3,a4,a0⟩:=zJF D n b6 (hA.prs K) (by omega);obtain⟨O,A8,b4,S,g4,m4,n4⟩:=box a4.prs.ok (.cells (jS (pp (C+i+1))) 42 3 false);have a5:=a4.step S;have a7:srcOf 3 (.slice A8 0 1 2) O=some (1,jS (pp (C+i+1))):=by
   simp only[srcOf,g4];rfl
  have NH:=J.1.next;have N2:=K.next;have N3:=a0.1.next;have N4:=S.next
  have a6: ∀B,Blk kv B-> ¬Blk A B:=fun B At y=>by have:=o B At;have:=zRy H0.gg.row y;omega
  have b7:Own 3 42 O kv i ((pps C i).flatMap jS):=((ho.mono K (fun _ _ x=>x)).mono a0.1 (fun B At p=>by
   rcases p with rfl | rfl | e
   .have:=o _ At;have:=H0.ltC;omega
   .have:=o _ At;have:=H0.ltF;omega
   .exact a6 B At e)).mono S (fun _ _ x=>x)
  obtain⟨H5,e5,o5,T,n5⟩:=gH (bytes:=24) a5.prs.ok (by decide) b7 a7 rfl rfl (by omega) (by omega) (by decide);have b8:=a5.other T (fun p=>by have:=o _ p;have:=H0.ltC;omega) (fun p=>by have:=o _ p;have:=H0.ltF;omega) (fun B y p=>a6 B p y) (fun e z B N p=>by
   have c4:B<F.next:=by
    rcases qA.1 z with z | z
    .rcases qA.1 z with z | z
     .obtain⟨b9,a1⟩:=H0.pf.mem e z;exact a1.lt N
     .obtain⟨l2,c0,e2⟩:=zBP z;obtain⟨b9,a1⟩:=hv.mem (List.mem_of_mem_take c0);rw[e2]at N;exact a1.lt N
    .simp only[qS]at z;subst z;exact hG.lt N
   have:=o B p;omega) (fun B p=>by have:=o B p;have:=H0.prs.next;omega)
  have c1:Adv w t F A H5 A:=by
   have a3:Adv w t F A O A:=((J.trans H0.ltC H0.ltF (Adv.prs A K)).trans H0.ltC H0.ltF a0).trans H0.ltC H0.ltF (Adv.prs A S);refine⟨⟨T.ok,by have:=T.next;omega,fun B At hS=> ?_⟩,fun B At=> .inl At⟩
   rw[T.keep B (by omega) (fun p=>by have:=o B p;omega)];exact a3.1.keep B At hS
  refine⟨_,H5, ?_, .slice O.next 0 (i+1) 1,rfl, ?_,c1, ?_,fun B At=>by rw[zRl.1 At];omega⟩
  .have c2:((i:Nat):Int)< (M.length:Int):=by omega
   have e1:=bldQ 42 (pp (C+i+1)) [.int .i64 (0:Nat), .int .i64 (0:Nat), .int .u64 (0:Nat)] rfl;simp(maxSteps:=999999)(disch:=omega) only[BA,eZ,c2,i1,i2,b1,b5,gJ g2 ll,e3,e1,b4,e5,yH]
  .rw[a9,b0,zA0,BZ,qC,qC,Nat.min_eq_left (by omega),Nat.min_eq_left (by omega),<-zZ,<-zZ];exact b8
  .rw[zEl];simpa using o5) n [.ptr w 0, .nS,q, .int .i64 (M.length:Nat), .int .i64 (0:Nat)] F ⟨.nS,rfl,by simpa[VI,vC]using H0,Adv.prs A (Prs.refl H0.prs.ok),zRw ..,fun B o=>(zRu.1 o).elim⟩ (by omega)
 obtain⟨m,us,H',e,kv,rfl,Z,J,ho,o⟩:=lp;rw[j9]at Z;rw[<-a2,j9,a2]at Z;refine⟨kv,H', ?_,Z,J,ho,o⟩;have C:kJ (m+1) (BA D n) [.ptr w 0,kv,q, .int .i64 (M.length:Nat), .int .i64 (M.length:Nat)] H'=some (.exit 0 [kv],H'):=jW (by simp only[BA,eZ,y7]);simp only[f179,eZ,hp.row.lnSl,e,C,zMH]
end Go.Eng.Sh
namespace Go.Bt
open Go.Nd (Str Kvs lookP putP delP Srt leafOf mayK rising shaped)
open Go.Eng (ltS)
def xT {α:Type}(Q:Ptr->Option Nd.Node)(R:Nd.Node->α->List Ptr->Prop):List Ptr->List α->List Ptr->Prop
 | [],[],S=>S=[]
 | p::ps,t::ts,S=> ∃nd a f,Q p=some nd/\R nd t a/\xT Q R ps ts f/\S=p::(a++f)
 | _,_,_=>False
def kU (Q:Ptr->Option Nd.Node):(h:Nat)->Nd.Node->Tr h->List Ptr->Prop
 | 0,nd,l,S=>nd=leafOf l/\S=[]
 | h+1,nd,t,S=>nd.leaf=false/\nd.keys=t.1/\nd.vals=[]/\xT Q (kU Q h) nd.kids t.2 S
theorem xT.len {α:Type}{Q:Ptr->Option Nd.Node}{R:Nd.Node->α->List Ptr->Prop} : ∀ {ps:List Ptr} {ts:List α} {S:List Ptr},xT Q R ps ts S->ps.length=ts.length
 | [],[],_,_=>rfl
 | _::ps,_::ts,_,⟨_,_,_,_,_,h,_⟩=>by simp[xT.len h]
 | [],_::_,_,h=>h.elim
 | _::_,[],_,h=>h.elim
theorem xT.app {α:Type}{Q:Ptr->Option Nd.Node}{R:Nd.Node->α->List Ptr->Prop}{j:List Ptr}{m:List α}{f:List Ptr}(o:xT Q R j m f): ∀ {ps:List Ptr} {ts:List α} {S:List Ptr},xT Q R ps ts S->xT Q R (ps++j) (ts++m) (S++f)
 | [],[],_,h=>by subst h;exact o
 | p::ps,t::ts,_,⟨nd,S1,S2,a,b,c,e⟩=>⟨nd,S1,S2++f,a,b,xT.app o c,by rw[e];simp⟩
 | [],_::_,_,h=>h.elim
 | _::_,[],_,h=>h.elim
theorem xT.split {α:Type}{Q:Ptr->Option Nd.Node}{R:Nd.Node->α->List Ptr->Prop} : ∀(k:Nat) {ps:List Ptr} {ts:List α} {S:List Ptr},xT Q R ps ts S-> ∃f j,xT Q R (ps.take k) (ts.take k) f/\xT Q R (ps.drop k) (ts.drop k) j/\S=f++j
 | 0,ps,ts,S,h=>⟨[],S,by simp[xT],h,rfl⟩
 | k+1,[],[],_,h=>⟨[],[],by simp[xT],by simp[xT],by subst h;rfl⟩
 | k+1,p::ps,t::ts,_,⟨nd,f,j,a,b,c,e⟩=>by
  obtain⟨T1,m,o,q,rfl⟩:=xT.split k c;exact⟨p::(f++T1),m,⟨nd,f,T1,a,b,o,rfl⟩,q,by rw[e];simp⟩
 | _+1,[],_::_,_,h=>h.elim
 | _+1,_::_,[],_,h=>h.elim
theorem xT.at {α:Type}{Q:Ptr->Option Nd.Node}{R:Nd.Node->α->List Ptr->Prop}{i:Nat}{ps:List Ptr}{ts:List α}{S:List Ptr}(h:xT Q R ps ts S){t:α}(q:ts[i]? =some t):
  ∃p nd f j m,ps[i]? =some p/\Q p=some nd/\R nd t j/\xT Q R (ps.take i) (ts.take i) f/\xT Q R (ps.drop (i+1)) (ts.drop (i+1)) m/\S=f++(p::j++m):=by
 obtain⟨f,x,u,o,rfl⟩:=h.split i;obtain⟨hi,rfl⟩:=qR.1 q;have hl:=h.len;rw[qI hi,qI (show i<ps.length by omega)]at o;obtain⟨nd,j,m,a,b,c,rfl⟩:=o;exact⟨_,nd,f,j,m,zQ (by omega),a,b,u,c,by simp⟩
theorem xT.mono {α:Type}{Q j:Ptr->Option Nd.Node}{R m:Nd.Node->α->List Ptr->Prop} : ∀ {ps:List Ptr} {ts:List α} {S:List Ptr},xT Q R ps ts S->(∀p∈S,∀nd,Q p=some nd->j p=some nd)->(∀nd t f,(∀p∈f,p∈S)->R nd t f->m nd t f)->xT j m ps ts S
 | [],[],_,h,_,_=>h
 | p::ps,t::ts,_,⟨nd,f,S2,a,b,c,e⟩,hq,hr=>by
  subst e;refine⟨nd,f,S2,hq p (zJ ..) nd a,hr nd t f (fun p hp=>zC _ (qU _ hp)) b,xT.mono c (fun p hp=>hq p (zC _ (yQ _ hp))) (fun nd t f o=>hr nd t f fun p hp=>zC _ (yQ _ (o p hp))),rfl⟩
 | [],_::_,_,h,_,_=>h.elim
 | _::_,[],_,h,_,_=>h.elim
theorem kU.mono {Q a:Ptr->Option Nd.Node} : ∀ {h:Nat} {nd:Nd.Node} {t:Tr h} {S:List Ptr},kU Q h nd t S->(∀p∈S,∀nd,Q p=some nd->a p=some nd)->kU a h nd t S
 | 0,_,_,_,w,_=>w
 | h+1,_,_,_,w,hq=>⟨w.1,w.2.1,w.2.2.1,w.2.2.2.mono hq fun nd t j f hr=>kU.mono hr fun p hp=>hq p (f p hp)⟩
theorem xT.kids {α:Type}{Q:Ptr->Option Nd.Node}{R:Nd.Node->α->List Ptr->Prop} : ∀ {ps:List Ptr} {ts:List α} {S:List Ptr},xT Q R ps ts S-> ∀p∈ps,p∈S
 | [],[],_,_=>by simp
 | q::ps,_::ts,_,⟨nd,S1,S2,_,_,c,e⟩=>fun p hp=>by
  subst e;rcases zK.1 hp with rfl | hp
  .exact zJ ..
  .exact zC _ (yQ _ (xT.kids c p hp))
 | [],_::_,_,h=>h.elim
 | _::_,[],_,h=>h.elim
theorem kU.size {Q:Ptr->Option Nd.Node}{h:Nat}{nd:Nd.Node}{t:Tr h}{S:List Ptr}(w:kU Q h nd t S):Nd.size nd=wK h t:=by
 cases h with
 | zero=>obtain⟨rfl,_⟩:=w;rfl
 | succ h=>
  obtain⟨_,a,f,j⟩:=w;simp only[Nd.size,wK,wS,a,f,j.len,sumL_nil];omega
theorem kU.leaf {Q:Ptr->Option Nd.Node}{h:Nat}{nd:Nd.Node}{t:Tr h}{S:List Ptr}(w:kU Q h nd t S):nd.leaf=decide (h=0):=by
 cases h with
 | zero=>obtain⟨rfl,_⟩:=w;rfl
 | succ h=>rw[w.1];simp
theorem kU.shaped {Q:Ptr->Option Nd.Node}{h:Nat}{nd:Nd.Node}{t:Tr h}{S:List Ptr}{lo hi:Bd}(w:kU Q h nd t S)(g:Gen h lo hi t)(m:0<h->nd.keys≠[])(a: ∀p∈S,Nd.kidOk p=true):shaped ltS nd=true:=by
 cases h with
 | zero=>
  obtain⟨rfl,_⟩:=w;exact Nd.leaf_shaped g.1 fun p hp=>(g.2 p hp).2.2
 | succ h=>
  obtain⟨o,f,q,j⟩:=w;obtain⟨u,x,y⟩:=g;have hl:=y.len;simp only[Nd.shaped,o,zL,qD,zE,zR,yE];refine⟨⟨fun k a=> ?_,by rw[f];exact x⟩,⟨⟨m (by omega),q⟩,by rw[j.len,hl,f]⟩,fun p hp=>a p (j.kids p hp)⟩;rw[f]at a;exact(u k a).1
def zFt (Q:Ptr->Option Nd.Node)(h:Nat):List Nd.Node->List (Tr h)->List Ptr->Prop
 | [],[],S=>S=[]
 | nd::nds,t::ts,S=> ∃a f,kU Q h nd t a/\zFt Q h nds ts f/\S=a++f
 | _,_,_=>False
theorem zFt.len {Q:Ptr->Option Nd.Node}{h:Nat} : ∀ {a:List Nd.Node} {ts:List (Tr h)} {S:List Ptr},zFt Q h a ts S->a.length=ts.length
 | [],[],_,_=>rfl
 | _::a,_::ts,_,⟨_,_,_,h,_⟩=>by simp[zFt.len h]
 | [],_::_,_,h=>h.elim
 | _::_,[],_,h=>h.elim
theorem zFQ (l:Kvs)(k:Nat):Nd.size (cutA (leafOf l) k)=wQ (l.take k):=by
 simp[cutA,leafOf,wQ,Nd.size]
theorem zKS {l:Kvs}(a:Nd.cutOk (leafOf l) k)(hb:Go.Eng.Sh.hbnd (leafOf l) k):zPv 0 l (l.take k) ((leafOf l).keys.getD k []) (l.drop k)/\cutA (leafOf l) k=leafOf (l.take k)/\QD (leafOf l) k=leafOf (l.drop k):=by
 obtain⟨k1,k2⟩:=a;obtain⟨b1,b2⟩:=hb;have f:(leafOf l).keys=l.map Prod.fst:=rfl;simp only[show(leafOf l).leaf=true from rfl,if_true,f,jE]at k2 b2;rw[zFQ]at b1 b2;refine⟨⟨k,⟨k1,k2,b1,b2⟩,rfl,rfl,rfl⟩, ?_, ?_⟩
 .simp[cutA,leafOf]
 .simp[QD,leafOf]
theorem kU.cut {t:Tr k}{lo hi:Bd}(Q:kU e k i t v)(g:Gen k lo hi t)(C:Nd.cutOk i w)(hb:Go.Eng.Sh.hbnd i w):
  ∃q u f m,zPv k t q (i.keys.getD w []) u/\kU e k (cutA i w) q f/\kU e k (QD i w) u m/\v=f++m:=by
 obtain⟨k1,k2⟩:=C;obtain⟨b1,b2⟩:=hb;have x:=Q.size
 cases k with
 | zero=>
  obtain⟨rfl,rfl⟩:=Q;obtain⟨c1,c2,c3⟩:=zKS ⟨k1,k2⟩ ⟨b1,b2⟩;exact⟨_,_,[],[],c1,⟨c2,rfl⟩,⟨c3,rfl⟩,rfl⟩
 | succ k=>
  obtain⟨o,a,K,y⟩:=Q;obtain⟨f,m,r1,J,rfl⟩:=y.split (w+1);have hl:=g.2.2.len;have z:=y.len;simp only[o,zL,qD,a]at k2 b2;have sz: ∀j,j<=t.1.length->Nd.size (cutA i j)=wS (t.1.take j) (j+1):=fun j N=>by
   simp only[cutA,o,zL,qD,Nd.size,wS,a,qC,sumL_nil];rw[z,hl,Nat.min_eq_left (by omega)];omega
  have p:min (k+1+1) 2=2:=by omega
  refine⟨(t.1.take w,t.2.take (w+1)),(t.1.drop (w+1),t.2.drop (w+1)),f,m,⟨w,⟨k1, ?_, ?_, ?_⟩,rfl,by rw[a],rfl⟩, ?_, ?_,rfl⟩
  .simp only[VV,p];exact k2
  .rcases b1 with b1 | b1
   .exact .inl b1
   .rw[sz w (by omega),x]at b1;exact .inr b1
  .rcases b2 with b2 | b2
   .exact .inl (by simp only[VV,p];exact b2)
   .rw[sz (w+1) (by omega),x]at b2;exact .inr b2
  .simp only[kU,cutA,o,zL,qD,a,true_and];exact r1
  .simp only[kU,QD,o,zL,qD,a,true_and];exact J
theorem zAO {a:List Str}(o:Go.Eng.Sh.CutsN i M a): ∀ {t:Tr k} {S:List Ptr} {lo hi:Bd},kU e k i t S->WX k lo hi t-> ∃ts,Cuts k t ts a/\zFt e k M ts S:=by
 induction o with
 | one hz=>
  intro t S lo hi w _;exact⟨[t], .one (by rw[<-w.size];exact hz),S,[],w,rfl,by simp⟩
 | @more i Q ps a hz hk hb _ ih=>
  intro t S lo hi w m;have j:500<wK k t:=by rw[<-w.size];exact hz
  obtain⟨p,C,q,u,c1,c2,c3,rfl⟩:=w.cut m.gen hk hb;obtain⟨_,x,_⟩:=zJc m j c1;obtain⟨ts,y,z⟩:=ih c3 x;exact⟨p::ts, .more j c1 y,q,u,c2,z,rfl⟩
theorem zFt.kids {Q:Ptr->Option Nd.Node}{h:Nat} : ∀ {f:List Nd.Node} {ts:List (Tr h)} {S:List Ptr} (a:Nat),zFt Q h f ts S->(∀i nd,f[i]? =some nd->Q (Go.Eng.Sh.pp (a+1+i))=some nd)->
  ∃j,xT Q (kU Q h) (Go.Eng.Sh.pps a f.length) ts j/\j.Perm (Go.Eng.Sh.pps a f.length++S)
 | [],[],S,a,h,_=>⟨[],rfl,by subst h;exact List.Perm.refl _⟩
 | nd::f,t::ts,_,a,⟨S1,S2,w,hp,e⟩,hq=>by
  subst e;obtain⟨j,r,m⟩:=zFt.kids (a+1) hp fun i n hi=>by
   have:=hq (i+1) n (by simpa using hi);rwa[show a+1+(i+1)=a+1+1+i from by omega]at this
  refine⟨Go.Eng.Sh.pp (a+1)::(S1++j),⟨nd,S1,j,hq 0 nd rfl,w,r,rfl⟩, ?_⟩;simp only[zT,Go.Eng.Sh.pps,qF];refine List.Perm.cons _ ?_;have:(S1++j).Perm (S1++(Go.Eng.Sh.pps (a+1) f.length++S2)):=List.Perm.append_left _ m;refine this.trans ?_;rw[<-zZ,<-zZ];exact List.Perm.append_right _ List.perm_append_comm
 | [],_::_,_,_,h,_=>h.elim
 | _::_,[],_,_,h,_=>h.elim
theorem kU.join {f j:Tr k}(p:kU e k i f v)(q:kU e k G j J)(s:Str):kU e k (cP i s G) (QV k f s j) (v++J):=by
 cases k with
 | zero=>
  obtain⟨rfl,rfl⟩:=p;obtain⟨rfl,rfl⟩:=q;have key: ∀i G:Kvs,cP (leafOf i) s (leafOf G)=leafOf (i++G):=fun i G=>by simp[cP,leafOf]
  exact⟨key f j,rfl⟩
 | succ k=>
  obtain⟨t,u,z,x⟩:=p;obtain⟨b1,b2,C,y⟩:=q;simp only[kU,cP,t,zL,qD,QV,u,b2,true_and];exact xT.app y x
theorem zEC {m o:Tr k}{lo hi:Bd}{s:Str}(f:kU e k i m v)(j:kU e k G o J)(q:Gen k lo (some s) m)(t:Gen k (some s) hi o)(h:mayK s=true)(z:0<k->i.keys≠[])(nb:0<k->G.keys≠[])
  (K: ∀p∈v,Nd.kidOk p=true) (N: ∀p∈J,Nd.kidOk p=true):Go.Eng.Sh.joinOk i s G=true:=by
 have O:=f.shaped q z K;have S:=j.shaped t nb N;simp only[Go.Eng.Sh.joinOk,O,S,Bool.true_and,Nd.partedN,h,f.leaf,j.leaf,beq_self_eq_true];have gl: ∀(l:List Str),l.length≠0->l.getD (l.length - 1) []∈l:=fun l hl=>by
  rw[qK,zQ (by omega)];exact yM _
 have C: ∀(l:List Str),l.length≠0->l.getD 0 []∈l:=fun l hl=>by
  rw[qK,zQ (by omega)];exact yM _
 cases k with
 | zero=>
  obtain⟨rfl,_⟩:=f;obtain⟨rfl,_⟩:=j;simp only[zE,j6,zR];refine⟨?_, ?_⟩
  .by_cases Q:(leafOf (m:Kvs)).keys.length=0
   .exact .inl Q
   .refine .inr ?_;have:=gl _ Q;obtain⟨p,hp,u⟩:=qZ.1 this;rw[<-u];exact(q.2 p hp).2.1
  .by_cases Q:(leafOf (o:Kvs)).keys.length=0
   .exact .inl (.inl Q)
   .have:=C _ Q;obtain⟨p,hp,u⟩:=qZ.1 this;rw[<-u];rcases(t.2 p hp).1 with Q | Q
    .exact .inr ⟨trivial,Q⟩
    .exact .inl (.inr Q)
 | succ k=>
  simp only[zE,j6,zR];refine⟨.inr ?_, .inl (.inr ?_)⟩
  .have hm:=gl i.keys (fun Q=>z (by omega) (zW Q));rw[f.2.1]at hm⊢;exact(q.1 _ hm).2.2
  .have hm:=C G.keys (fun Q=>nb (by omega) (zW Q));rw[j.2.1]at hm⊢;exact(t.1 _ hm).2.1
end Go.Bt
namespace Go.Eng
theorem zLM {lo hi f:Option Nat}(h:JC k w t s C Y lo hi f=some A): ∀B,Blk A B->B=k:=by
 intro B a;unfold JC at h;simp only[kF]at h;split at h
 .split at h
  .rw[zF]at h;split at h
   .simp only[zB]at h;subst h;exact zRl.1 a
   .cases h
  .cases h
 .rw[zF]at h;split at h
  .rw[zF]at h;split at h
   .simp only[zB]at h;subst h;exact zRl.1 a
   .rw[zF]at h;split at h
    .simp only[zB]at h;subst h;exact zRl.1 a
    .rw[zF]at h;split at h
     .simp only[zB]at h;subst h;exact zRl.1 a
     .simp only[zB]at h;subst h;obtain⟨_,_,_,a⟩:=a;cases a
  .cases h
theorem zAg {lo hi f:Option AV}(sz:vN k A lo hi f h=some q): ∀B,Blk q B->Blk A B:=by
 intro B a;unfold vN at sz;split at sz
 .split at sz
  .rw[zF]at sz;split at sz
   .simp only[zB]at sz;subst sz;exact a
   .cases sz
  .split at sz
   .rw[zF]at sz;split at sz
    .rw[zLM sz B a];exact⟨_,_,_,rfl⟩
    .cases sz
   .cases sz
  .split at sz
   .rw[zF]at sz;split at sz
    .simp only[zB]at sz;subst sz;obtain⟨_,_,_,a⟩:=a;cases a
    .cases sz
   .cases sz
  .cases sz
 .cases sz
end Go.Eng
namespace Go.Eng.Sh
variable {X:Nat->Prop}
theorem hi3 (H:kZ 3 42 h A v.length (v.flatMap jS)){i:Nat}(hi:i<=v.length):
  ∃r,vN 3 A none (some (.int .i64 (i:Nat))) (some (.int .i64 (i:Nat))) h=some r/\gY h r (v.take i):=by
 obtain⟨r,f,w,_⟩:=zAf H (by decide) hi .i64 .i64;rw[XK]at w;have a:(v.take i).length=i:=by rw[qC];omega
 exact⟨r,f,by rw[gY,a];exact w⟩
theorem lo3 (H:kZ 3 42 h A v.length (v.flatMap jS)){i:Nat}(hi:i<=v.length)(m:0<v.length):
  ∃r,vN 3 A (some (.int .i64 (i:Nat))) none none h=some r/\gY h r (v.drop i):=by
 by_cases j:i<v.length
 .obtain⟨r,a,w,_⟩:=YN H (by decide) j .i64;rw[XL]at w;have f:(v.drop i).length=v.length - i:=by rw[qL]
  exact⟨r,a,by rw[gY,f];exact w⟩
 .obtain rfl:i=v.length:=by omega
  obtain⟨r,a,w⟩:=K7 H (by decide) m .i64;exact⟨r,a,by rw[List.drop_length];exact w⟩
theorem conP3{cc:Nat}{m H:List Ptr}(j:h.ok)(x:h.h.get k=some (.cells [A,q,I] 50 1 false))(t:gY h A J)(u:gY h q m)(C:gY h I H)(hb:J.length+m.length+H.length<=1000000000)(K:100<=n):
  ∃w H',f178 D n [.slice k 0 3 cc] h=some (w,H')/\Prs h H'/\Own 3 42 H' w (J++(m++H)).length ((J++(m++H)).flatMap jS)/\ ∀B,Blk w B->h.next<=B:=by
 obtain⟨w,H',e,p,o,f⟩:=zJn D n j (v:= .slice k 0 3 cc) (vs:=[A,q,I]) (rs:=[(J.length,J.flatMap jS),(m.length,m.flatMap jS),(H.length,H.flatMap jS)]) (Rw.lit j x) ⟨⟨t,bF _⟩,⟨u,bF _⟩,⟨C,bF _⟩,trivial⟩ (by simp[fH];omega) (by simp) (by simp;omega)
  (fun B a=>by rw[zRl.1 a];exact j.lt x) (fun I y B a=>by
   simp only[zK,List.not_mem_nil,or_false]at y;rcases y with rfl | rfl | rfl
   .exact zRy t a
   .exact zRy u a
   .exact zRy C a)
 exact⟨w,H',e,p,by simpa[fH,zG8]using o,f⟩
theorem zNT(hn:200000000<=n){i m:Nat}{f:PN}{a3 y:Nat}{kd:Nd.Node}
  (H0:Ch X h F k w t H f A v a3 y) (Z:F.h.get s=some (.cells l 119 1 false)) (g7:F.h.get C=some (.cells W 119 1 false)) (g8:F.h.get Y=some (.cells [.bool false, .nS, .nS, .nS] 119 1 false))
  (f7:h.next<=s) (f8:h.next<=C) (f9:h.next<=Y) (h58:s≠Y) (c6:s≠w) (b1:Y≠w)
  (hv:xR X F A (.agg l) G) (a6:xR X F A (.agg W) kd) (c7:Nd.shaped ltS kd=true) (hz:Nd.size kd<=10000) (hs:small G) (g0:G.kids.length=G.keys.length+1) (c8:G.keys≠[]) (g1:i+m<G.kids.length)
  (c3: ∀j At,CutsN kd j At->j.length<=1000/\At.length<=1000) (hb:y<=800000000):
  ∃u H' j At vs,zCk D n [.ptr w 0, .ptr s 0, .ptr C 0, .ptr Y 0, .int .i64 (i:Nat), .int .i64 (i+m+1:Nat)] F=some (.ret (.tuple [u, .int .i64 (0:Nat)]),H')/\CutsN kd j At/\
   Ch X h H' k w t (H++VI y vs) (f++vC y j) A v a3 (y+j.length)/\Stp (fun B=>chg w t A B\/B=Y) F H'/\
   xR X H' A u ⟨false,G.keys.take i++(At++G.keys.drop (i+m)),[],G.kids.take i++(pps y j.length++G.kids.drop (i+m+1))⟩/\ ∀B,xS u B->F.next<=B:=by
 obtain⟨ks,a7,ps,b3,k1,k2,k3⟩:=id hv.1;simp only[AV.agg.injEq]at b3;subst b3;have c9:W.length=4:=by obtain⟨_,_,_,e,_⟩:=a6.1;simp only[AV.agg.injEq]at e;rw[e];rfl
 have c0:0<G.keys.length:=by
  rcases Nat.eq_zero_or_pos G.keys.length with e | e
  .exact absurd (zW e) c8
  .exact e
 obtain⟨s1,s2,s3⟩:=hs;have f5:=Nd.sumL_ge G.keys;obtain⟨pv,sv,H1,vs,j,At,e1,N,b0,oP,c4,oS,bP,bS,d0⟩:=zCt D n hn H0.prs.ok a6.1 c7 hz;obtain⟨c1,c2⟩:=c3 j At b0;have h1:=H0.step N;have G5 {O:AH} (p:Prs F O):=zRt p H0.prs.ok Z;have q1 {O:AH} (p:Prs F O):kZ 1 9 O ks G.keys.length (G.keys.map S):=k1.mono p (fun _ _ x=>x);have q3 {O:AH} (p:Prs F O):kZ 3 42 O ps G.kids.length (G.kids.flatMap jS):=k3.mono p (fun _ _ x=>x);obtain⟨r1,d1,x1⟩:=hi1 (q1 N) (i:=i) (by omega);obtain⟨r2,d2,x2⟩:=lo1 (q1 N) (i:=i+m) (by omega) c0;obtain⟨H2,A2,b2,J,g2,m2,n2⟩:=box N.ok (.cells [r1,sv,r2] 117 1 false);have P2:=N.trans J;obtain⟨r3,b4,x3⟩:=hi3 (q3 P2) (i:=i) (by omega);obtain⟨r4,b6,x4⟩:=lo3 (q3 P2) (i:=i+m+1) (by omega) (by omega);have d3:Strs H2 sv At:=(oS.mono J (fun _ _ x=>x)).row;obtain⟨w3,H3,e3,p3,o3,f3⟩:=zQU D n (cc:=6) J.ok g2 (x1.prs J) d3 (x2.prs J) (by simp only[qC,qL];omega) (by omega);have T:=P2.trans p3;have h3:=H0.step T;have N1:=N.next;have N2:=J.next;have N3:=p3.next
 obtain⟨kv,H4,e4,h4,K,o4,f4⟩:=zCS D n hn h3 (oP.mono (J.trans p3) (fun _ _ x=>x)) (c4.frame fun A7 hl G hg=>hg.prs (J.trans p3)) (fun A7 hl B a=>by
  rcases d0 A7 hl B a with e | e
  .exact a6.2 B e
  .exact⟨fun a8=>by have:=zRy H0.gg.row a8;omega,fun hx=>by have:=H0.xo B hx;have:=H0.prs.next;omega⟩) (by omega) (by omega)
 have a2:xR X H3 A (.agg [.bool G.leaf,ks,a7,ps]) G:=hv.prs T;have d4:=h3.next a2 K
 obtain⟨g3,vs',g4,ee,j1,j2,j3⟩:=id d4.1;simp only[AV.agg.injEq,y8,and_true,true_and]at ee;obtain⟨rfl,rfl,rfl⟩:=ee;have b7: ∀B,Blk ps B-> ¬chg w t A B:=fun B a q=>by
  have a9:xS (.agg [.bool G.leaf,ks,a7,ps]) B:=wO.2 (.inr (.inr a));rcases q with rfl | rfl | e
  .exact a2.1.nblk h3.gC (.inl ⟨_,_,_,_,rfl,fun _ _ e=>by cases e⟩) a9
  .exact a2.1.nblk h3.gF (.inr (.inl ⟨_,_,rfl⟩)) a9
  .exact(a2.2 B a9).1 e
 have y3:gY H4 r3 (G.kids.take i):=Rw.stp (x3.prs p3) K.1 (fun B a=>b7 B (zAg b4 B a));have y4:gY H4 r4 (G.kids.drop (i+m+1)):=Rw.stp (x4.prs p3) K.1 (fun B a=>b7 B (zAg b6 B a));obtain⟨H5,A9,b5,z,d5,m5,n5⟩:=box h4.prs.ok (.cells [r3,kv,r4] 50 1 false);have d6:gY H5 kv (pps y j.length):=by
  have:=(o4.mono z (fun _ _ x=>x)).row;rw[gY,YQ];exact this
 obtain⟨w6,H6,e6,p6,o6,f6⟩:=conP3 D n (cc:=6) z.ok d5 (y3.prs z) d6 (y4.prs z) (by rw[YQ];simp only[qC,qL];omega) (by omega);have a0:Prs H4 H6:=z.trans p6;have h6:=h4.step a0;have N4:=K.1.next;have N6:=a0.next;have N0:=H0.prs.next
 have g6:Y<F.next:=H0.prs.ok.lt g8
 have g9:s<F.next:=H0.prs.ok.lt Z
 have n8: ¬chg w t A Y:=fun q=>by
  rcases q with e | e | e
  .exact b1 e
  .rw[e,H0.gF]at g8;cases g8
  .rw[H0.gg.get e]at g8;simp at g8
 have d7: ¬chg w t A s:=fun q=>by
  rcases q with e | e | e
  .exact c6 e
  .rw[e,H0.gF]at Z;cases Z
  .rw[H0.gg.get e]at Z;simp at Z
 have b8:H6.h.get Y=some (.cells [.bool false, .nS, .nS, .nS] 119 1 false):=by
  rw[a0.keep _ (by omega) (fun x=>x),K.1.keep _ (by omega) n8];exact zRt T H0.prs.ok g8
 have d8:H4.h.get s=some (.cells [.bool G.leaf,ks,a7,ps] 119 1 false):=by rw[K.1.keep _ (by omega) d7];exact G5 T
 have b9:Own 1 9 H6 w3 (G.keys.take i++(At++G.keys.drop (i+m))).length ((G.keys.take i++(At++G.keys.drop (i+m))).map S):=(o3.mono K.1 (fun B a q=>by
  have:=f3 B a;rcases q with e | e | e
  .have:=H0.ltC;omega
  .have:=H0.ltF;omega
  .have:=zRy H0.gg.row e;omega)).mono a0 (fun _ _ x=>x)
 obtain⟨H7,e7,d9,s7,n7⟩:=jV h6.prs.ok b8 (l':=[.bool false,w3, .nS,w6]) rfl (by simp only[jP,b9.row.isCell,o6.row.isCell];rfl);have e0:stN 4 (.ptr Y 0) (.agg [.bool false,w3, .nS,w6]) H6=some (jQ,H7):=e7;have e2: ∀B,Blk A B-> ¬B=Y:=fun B a e=>n8 (.inr (.inr (e▸a)))
 have h7:Ch X h H7 k w t (H++VI y vs) (f++vC y j) A v a3 (y+j.length):=h6.other s7 (fun e=>b1 e.symm) (fun e=>n8 (.inr (.inl e.symm))) e2 (fun e5 e8 B a e=>by
  subst e;obtain⟨h0,e9⟩:=h6.pf.mem e5 e8;exact e9.nblk b8 (.inl ⟨_,_,_,_,rfl,fun _ _ e=>by cases e⟩) a) (fun B a=>by omega)
 have f1:vN 1 ks (some (.int .i64 (i+m:Nat))) none none H1=some r2:=d2;have c5:((i+m+1:Nat):Int) - ((1:Nat):Int)=((i+m:Nat):Int):=by omega
 refine⟨.agg [.bool false,w3, .nS,w6],H7,j,At,vs, ?_,b0,h7, ?_,⟨⟨w3, .nS,w6,rfl, .inl (b9.mono s7 (fun B a e=>by have:=f3 B a;omega)), .inl (zRw ..), .inl (o6.mono s7 (fun B a e=>by have:=f6 B a;have:=z.next;omega))⟩,fun B a=>⟨fun a8=> ?_,fun hx=> ?_⟩⟩,fun B a=> ?_⟩
 .have f2: ¬(((0:Nat):Int)≠((0:Nat):Int)):=by omega
  simp(config:= { maxSteps:=2000000}) (disch:=omega) only[zCk,eZ,gJ g7 c9,e1,jN,nth,f2,jM (G5 N),d1,c5,f1,row3 117 .nS x1.isCell oS.row.isCell x2.isCell,b2,jM (G5 P2),b4,b6,e3,kW (jM (G5 T) 3) (kK k3.row),bK (q3 P2) (q3 T) (by decide),kW rfl (kK x3),kW rfl (kK x4),e4,kW (jM d8 3) (kK k3.row),bK (q3 P2) j3 (by decide),
   row3 50 .nS x3.isCell o4.row.isCell x4.isCell,b5,e6,zOR o3.row.isCell o6.row.isCell,e0,gJ d9 rfl]
 .have a1:Stp (fun B=>chg w t A B\/B=Y) F H4:=(T.mono (fun _ _ x=>x.elim)).trans (K.1.mono (fun _ _ x=> .inl x));exact(a1.trans (a0.mono (fun _ _ x=>x.elim))).trans (s7.mono (fun _ _ x=> .inr x))
 .have:=zRy H0.gg.row a8;rcases wO.1 a with e | e | e
  .have:=f3 B e;omega
  .exact(zRu.1 e).elim
  .have:=f6 B e;have:=z.next;omega
 .have:=H0.xo B hx;have:=H0.prs.next
  rcases wO.1 a with e | e | e
  .have:=f3 B e;omega
  .exact(zRu.1 e).elim
  .have:=f6 B e;have:=z.next;omega
 .rcases wO.1 a with e | e | e
  .have:=f3 B e;omega
  .exact(zRu.1 e).elim
  .have:=f6 B e;have:=z.next;omega
open Go.Bt
variable {E:Ev}
theorem JH (h:pp k=pp w):k=w:=by simp only[pp,Ptr.mk.injEq]at h;omega
theorem zKX (s:Nat):Nd.kidOk (pp s)=true:=by simp[Nd.kidOk,pp]
theorem YZ: ∀ {j:List Nd.Node} {f i:Nat} {nd:Nd.Node},j[i]? =some nd->jX (f+1+i) (vC f j)=some nd
 | [],_,_,_,h=>by simp at h
 | a::j,f,0,nd,h=>by simp at h;subst h;simp[vC,jX]
 | a::j,f,i+1,nd,h=>by
  simp only[j7]at h;rw[vC,jX,if_neg (by omega),show f+1+(i+1)=f+1+1+i from by omega];exact YZ h
theorem VH: ∀ {j:List Nd.Node} {f s:Nat} {nd:Nd.Node},jX s (vC f j)=some nd->f<s/\s<=f+j.length
 | [],_,_,_,h=>by simp[vC,jX]at h
 | a::j,f,s,nd,h=>by
  rw[vC,jX]at h;split at h
  .simp only[zT];omega
  .have:=VH h;simp only[zT];omega
theorem zB0 {q f new:PN}(o: ∀s i,jX s q=some i->s<=k)(t: ∀s i,jX s new=some i->k<s)(h:Qf E q f B=some i):Qf E q (f++new) B=some i:=by
 obtain⟨s,rfl,a | ⟨a,j⟩⟩ | ⟨a,j⟩:=uK h
 .rw[zAZ,v8,a]
 .rw[zAZ,v8,a];simp only
  cases u:jX s new with
  | none=>exact j
  | some n2=>have:=o _ _ j;have:=t _ _ u;omega
 .rw[JD a];exact j
theorem bU (h:E.K B=some i):Nd.kidOk B=true/\2<=B.at_:=by
 obtain⟨a,birth,kind,body,rfl,f,j,⟨m,_⟩,o,_⟩:=zRn.1 h;simp only[Nd.kidOk,zE,zR];simp only[fJ];omega
theorem zB1 {q f:PN}(h:Qf E q f B=some i):Nd.kidOk B=true:=by
 obtain⟨s,rfl,_⟩ | ⟨_,a⟩:=uK h
 .exact zKX s
 .exact(bU a).1
theorem zLY {q f:PN}(h:Qf E q f B=some i):1<=B.at_:=by
 have:=zB1 h;simp only[Nd.kidOk,zE,zR]at this;omega
theorem xT.kidOk {α:Type}{q f:PN}{R:Nd.Node->α->List Ptr->Prop}(hr: ∀nd t S,R nd t S-> ∀p∈S,Nd.kidOk p=true): ∀ {ps:List Ptr} {ts:List α} {S:List Ptr},xT (Qf E q f) R ps ts S-> ∀p∈S,Nd.kidOk p=true
 | [],[],_,h=>by subst h;simp
 | p::ps,t::ts,_,⟨nd,S1,S2,a,b,c,e⟩=>fun x j=>by
  subst e;rcases zK.1 j with rfl | j
  .exact zB1 a
  .rcases qA.1 j with j | j
   .exact hr _ _ _ b x j
   .exact xT.kidOk hr c x j
 | [],_::_,_,h=>h.elim
 | _::_,[],_,h=>h.elim
theorem kU.kidOk {q f:PN} : ∀ {h:Nat} {nd:Nd.Node} {t:Bt.Tr h} {S:List Ptr},kU (Qf E q f) h nd t S-> ∀p∈S,Nd.kidOk p=true
 | 0,_,_,_,w=>by obtain⟨_,rfl⟩:=w;simp
 | h+1,_,_,_,w=>xT.kidOk (fun _ _ _ hr=>kU.kidOk hr) w.2.2.2
theorem zBE(hn:200000000<=n){H0 H:AH}{At N F Z A7 O i m h:Nat}{q:PN}{b3:List (AV×AV)}{f:PN}{g:AV}{gl:List Ptr}{a0 o:Nat}{ln lk:List AV}{nd kd:Nd.Node}{t:Bt.Tr (h+1)}{x:Bt.Tr h}{Sa Sb Sx:List Ptr}{lo hi:Bd}
  (ch:Ch X H0 H At N F b3 f g gl a0 o) (g5:H.h.get Z=some (.cells ln 119 1 false)) (g7:H.h.get A7=some (.cells lk 119 1 false)) (g8:H.h.get O=some (.cells [.bool false, .nS, .nS, .nS] 119 1 false))
  (b4:H0.next<=Z) (b5:H0.next<=A7) (b6:H0.next<=O) (h58:Z≠O) (b7:Z≠N) (b8:O≠N)
  (hv:xR X H g (.agg ln) nd) (b9:xR X H g (.agg lk) kd) (hq: ∀s nd,jX s q=some nd->s<=a0)
  (n1:nd.leaf=false) (n2:nd.keys=t.1) (n3:nd.vals=[]) (n4:nd.kids.length=t.2.length) (wi:Inn (WF h) lo hi t) (c0:t.1≠[]) (hz:wS t.1 t.2.length<=500) (a8:i+m<t.2.length)
  (ra:xT (Qf E q f) (kU (Qf E q f) h) (nd.kids.take i) (t.2.take i) Sa) (rb:xT (Qf E q f) (kU (Qf E q f) h) (nd.kids.drop (i+m+1)) (t.2.drop (i+m+1)) Sb)
  (rx:kU (Qf E q f) h kd x Sx) (wx:WX h (VO lo t.1 i) (YG t.1 hi (i+m)) x) (fx:Full h x) (c3:0<h->kd.keys≠[]) (hb:o<=800000000):
  ∃u H' b1 f' a4 K T J,zCk D n [.ptr N 0, .ptr Z 0, .ptr A7 0, .ptr O 0, .int .i64 (i:Nat), .int .i64 (i+m+1:Nat)] H=some (.ret (.tuple [u, .int .i64 (0:Nat)]),H')/\
   Ch X H0 H' At N F b1 f' g gl a0 a4/\Stp (fun B=>chg N F g B\/B=O) H H'/\xR X H' g u K/\(∀B,xS u B->H.next<=B)/\kU (Qf E q f') (h+1) K T J/\Inn (WF h) lo hi T/\
   con (h+1) T=(t.2.take i).flatMap (con h)++con h x++(t.2.drop (i+m+1)).flatMap (con h)/\wS T.1 T.2.length<=wS t.1 t.2.length+285/\t.1.length<=T.1.length+m/\o<=a4/\a4<=o+6/\
   J.Perm (pps o (a4 - o)++(Sa++Sb++Sx))/\ ∀p nd,Qf E q f p=some nd->Qf E q f' p=some nd:=by
 have hl:=wi.2.2.len;have c4:small nd:=by
  have:Nd.size nd<=10000:=by
   simp only[Nd.size,n2,n3,n4,Bt.sumL_nil];simp only[wS]at hz;omega
  exact vI this
 have c5:=rx.shaped wx.gen c3 (kU.kidOk rx);have c6:Nd.size kd<=10000:=by rw[rx.size];have:=wx.sz;omega
 have a6: ∀y z,CutsN kd y z->y.length<=6/\z.length<=6:=fun y z hc=>by
  obtain⟨ts,c1,c2⟩:=zAO hc rx wx;obtain⟨d1,_,d3,_⟩:=zAN c1 wx (.inl fx);have l1:=c2.len;have l2:=d1.2.2.len;simp only at l2;omega
 obtain⟨u,H',y,z,vs,e1,a7,c7,st,hu,c8⟩:=zNT D n hn (i:=i) (m:=m) ch g5 g7 g8 b4 b5 b6 h58 b7 b8 hv b9 c5 c6 c4 (by rw[n4,hl,n2]) (by rw[n2];exact c0) (by rw[n4];exact a8) (fun y z hc=>by have:=a6 y z hc;omega) hb;obtain⟨ts,c1,c2⟩:=zAO a7 rx wx;obtain⟨p1,p2,p3,p4⟩:=zKE (ks:=t.1) (ts:=t.2) wi a8 wx fx c1;have b2: ∀s K,jX s (vC o y)=some K->a0<s:=fun s K hs=>by have:=VH hs;have:=ch.le;omega
 have more: ∀p nd,Qf E q f p=some nd->Qf E q (f++vC o y) p=some nd:=fun p nd hp=>zB0 hq b2 hp
 have a5: ∀ {ps:List Ptr} {ts:List (Bt.Tr h)} {S:List Ptr},xT (Qf E q f) (kU (Qf E q f) h) ps ts S->xT (Qf E q (f++vC o y)) (kU (Qf E q (f++vC o y)) h) ps ts S:=fun r=>r.mono (fun p _ nd hp=>more p nd hp) (fun nd t S1 _ hr=>hr.mono fun p _ nd hp=>more p nd hp)
 have c9:zFt (Qf E q (f++vC o y)) h y ts Sx:=by
  have mono: ∀ {Y:List Nd.Node} {C:List (Bt.Tr h)} {J:List Ptr},zFt (Qf E q f) h Y C J->zFt (Qf E q (f++vC o y)) h Y C J:=by
   intro Y
   induction Y with
   | nil=>intro C J hp;cases C with
    | nil=>exact hp
    | cons=>exact hp.elim
   | cons a Y ih=>intro C J hp;cases C with
    | nil=>exact hp.elim
    | cons b C=>
     obtain⟨S1,S2,a1,a2,a3⟩:=hp;exact⟨S1,S2,a1.mono fun p _ nd hp=>more p nd hp,ih a2,a3⟩
  exact mono c2
 have b0: ∀j,jX (o+1+j) f=none:=fun j=>by
  cases hk:jX (o+1+j) f with
  | none=>rfl
  | some n2=>have:=ch.fs _ _ hk;omega
 obtain⟨S2,r2,a9⟩:=c9.kids o (fun j K hj=>by rw[zAZ,v8,b0];simp only[YZ hj]);have rl:=xT.app (xT.app (a5 rb) r2) (a5 ra);have d0:=a6 y z a7;refine⟨u,H',_,_,o+y.length,_,(t.1.take i++z++t.1.drop (i+m),t.2.take i++ts++t.2.drop (i+m+1)),Sa++(S2++Sb),e1,c7,st,hu,c8,⟨rfl,by simp[n2],rfl, ?_⟩,p1,p2,p3,p4,by omega,by omega, ?_,more⟩
 .simp only[zZ];exact rl
 .rw[show o+y.length - o=y.length by omega];rw[List.perm_iff_count]at a9⊢;intro a;have:=a9 a;simp only[List.count_append]at this⊢;omega
end Go.Eng.Sh




