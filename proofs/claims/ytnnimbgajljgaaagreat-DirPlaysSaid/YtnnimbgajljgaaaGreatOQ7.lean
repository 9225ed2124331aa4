/- A checked evaluator for the program, and what it tells, part 7: no condition. -/
import Derived.Test.YtnnimbgajljgaaaGreatOQ6
import Derived.Test.YtnnimbgajljgaaaGreatRows
import Derived.ProofKit
import Derived.OpenShut
import Derived.Carry
set_option linter.all false
set_option linter.unusedVariables false
set_option linter.unusedSimpArgs false
set_option maxHeartbeats 8000000
set_option maxRecDepth 20000
section
namespace Go.Eng.Sh
open Go.Nd (Ptr yH qQ Kvs Srt)
open Go.Bt
def jF (fr to:Str)(kv:Kvs):Kvs:=kv.filter (inP fr to)
theorem Z1 {fr to:Str}{kv:Kvs}(ht:to≠[])(h:ltS fr to=false):jF fr to kv=[]:=by
 rw[jF,List.filter_eq_nil_iff];intro p _ hp;simp only[inP,y6,z8,Bool.not_eq_true',Bool.or_eq_true,List.isEmpty_iff,ht,false_or]at hp;have h1:=not_lt (a:=p.1) (b:=fr) (by simp[hp.1]);have:=uA h1 hp.2;rw[h]at this;cases this
theorem zEc (m:Nat)(hm:700000000<=m){H:AH}{At M L:Nat}{kv:Kvs}(t:wC H At M L kv)(hL:L<=1000000)(hkv:kv.length<=1000000000)(fr to:Str){most:Nat}(hmo:0<=most)(hlen:(jF fr to kv).length<=most):
  ∃H' v,f18 (dy (m+1)) (m+1) [.ptr At 0,S fr,S to, .int .i64 ((most:Nat):Int)] H=some (.tuple [v, .bool false, .int .i64 ((0:Nat):Int)],H')/\Prs H H'/\yN 2 85 H' v (jF fr to kv).length ((jF fr to kv).flatMap prV)/\ ∀B,Blk v B->H.next<=B:=by
 obtain⟨d,c,_,root,es,q,last,rfl,hc,ti,h2,h3,h4,h5⟩:=t;have hold:=ti.hold;have lA:=ti.ok.lt ti.gT;have lM:=ti.ok.lt ti.gM;have hg:GI0 H.next At M root q H (fun _=>False):=⟨fun _ x=>x,lA,lM,d,c,es,last,ti,hold⟩
 have main: ∀L0,Vis (Qf q []) root fr to L0->L0.length<=8192+q.length->(jK (wF fr to (vS most)) L0 ([],false)).2=(jF fr to kv,false)-> ∃H' v,f18 (dy (m+1)) (m+1) [.ptr At 0,S fr,S to, .int .i64 ((most:Nat):Int)] H=some (.tuple [v, .bool false, .int .i64 ((0:Nat):Int)],H')/\Prs H H'/\yN 2 85 H' v (jF fr to kv).length ((jF fr to kv).flatMap prV)/\ ∀B,Blk v B->H.next<=B:=by
  intro L0 hv hl hr;obtain⟨H',Wg',v,e,_,s,_,g,f⟩:=VN (zE6 H.next At M root q) m hm hg (Nat.le_refl _) hmo hv hl (by omega)
  rw[hr]at e g;exact⟨H',v,e,s,g,f⟩
 rcases h5 with⟨rfl,rfl⟩ | ⟨s,h,nd,t,S0,rfl,hs,rn,wr,nd0,rfl⟩
 ·exact main [] (.inl ⟨.inl rfl,rfl⟩) (by simp) rfl
 ·by_cases hto:to≠[]/\ltS fr to=false
  ·refine main [] (.inl ⟨.inr hto,rfl⟩) (by simp) ?_;rw[Z1 hto.1 hto.2];rfl
  ·have hto':to=[]\/ltS fr to=true:=by
    by_cases h0:to=[]
    ·exact .inl h0
    ·right
     cases hb:ltS fr to with
     | true=>rfl
     | false=>exact absurd ⟨h0,hb⟩ hto
   obtain⟨_,_,hvl⟩:=KP (Q:=Qf q []) (fr:=fr) (to:=to) (p:=pp s) rn wr;obtain⟨_,hql⟩:=JE hs rn wr nd0;refine main (wQ (Qf q []) fr to h (pp s) nd) (.inr ⟨by simp[pp],hto',h,nd,by have:=wr.low hkv;omega, ?_,zDe rn wr,rfl⟩) (by omega) ?_
   ·rw[Z9];simpa[qV]using hs
   ·rw[zAK rn wr,zDV _ [] (by have:(List.filter (inP fr to) (con h t)).length<=most:=hlen;simpa using this)];rfl
end Go.Eng.Sh
end
section
namespace Go.Eng
theorem xX (s:Str)(k:IntKind){i:Nat}(h:i<s.length):dL (S s) (.int k ((i:Nat):Int))=some (.int .u8 (((s[i]).toNat:Nat):Int)):=by
 have:=zKS s k (z:=((i:Nat):Int)) (by omega) (by simpa using h);simpa using this
end Go.Eng
namespace Go.Eng.Sh
open Go.Nd (Ptr yH qQ Kvs Srt)
open Go.Bt Go.Dr
theorem zHw (s:Str){i:Nat}(h:i<s.length):num (s.take (i+1))=num (s.take i)*256+(s[i]).toNat:=by
 rw[num,zJ h,zBh];rfl
theorem zMC (s:Str){i:Nat}(h:s.length<=i):num s<256 ^ i:=by
 have h1:=JO s 0;have h2:256 ^ s.length<=256 ^ i:=Nat.pow_le_pow_right (by omega) h;rw[num];omega
theorem zGo (x k:Nat):j6 (dig x k)=(List.range k).map fun i=>AV.int .u8 ((x / 256 ^ (k - 1 - i) % 256:Nat):Int):=by
 apply List.ext_getElem
 ·simp[kX,yY]
 ·intro i h1 h2;simp only[j6,List.getElem_map,List.getElem_range];rw[zG9]
def gP (x k i:Nat):List AV:=((List.range k).map fun j=>AV.int .u8 ((if j<i then x / 256 ^ (k - 1 - j) % 256 else 0:Nat):Int))
theorem zCS (x k:Nat){i:Nat}(h:i<k):(gP x k i).set i (.int .u8 ((x / 256 ^ (k - 1 - i) % 256:Nat):Int))=gP x k (i+1):=by
 apply List.ext_getElem
 ·simp[gP]
 ·intro j h1 h2;simp only[gP,List.getElem_set,List.getElem_map,List.getElem_range];by_cases e:i=j
  ·subst e;simp
  ·rw[if_neg e];by_cases hj:j<i
   ·rw[if_pos hj,if_pos (by omega)]
   ·rw[if_neg hj,if_neg (by omega)]
theorem cv1 {H:AH}{A:Nat}{a:UInt8}{e:Nat}(hk:H.ok)(g:H.h.get A=some (.cells [.int .u8 ((a.toNat:Nat):Int)] e 1 false)):zD6 (.slice A 0 1 2) H=some (S [a]):=
 ZK (n:=1) ⟨rfl, .inr (.inr ⟨_,_,_,_,_,_,_,rfl,g,hk.lt g,by simp,rfl⟩)⟩ (by simp)
theorem zEv {c:Nat}(hc:c<256):(UInt8.ofNat c).toNat=c:=by rw[UInt8.toNat_ofNat'];omega
end Go.Eng.Sh
end
section
namespace Go.Eng
theorem BC {w:World}{base n:Nat}{a:Addr}{cs:List Value}(h:w.cells? base a n=some cs)(hn:0<n):a.spot=none/\ ∃arr e fz,w.heap[a.block]? =some (.cells arr e fz)/\ ∀j,j<n->arr[a.off+j]? =cs[j]? :=by
 obtain⟨_,hl,hc⟩:=World.cells?_some h;have h0:=hc 0 hn;rw[zC (by omega)]at h0;obtain⟨c1,arr,te,fz,hg,_⟩:=BD h0;have hsp:a.spot=none:=by simpa[Addr.add]using c1
 obtain⟨b,o,sp⟩:=a;simp only at hsp;subst hsp;have hb:(Addr.add ⟨b,o,none⟩ 0).block=b:=by simp[Addr.add]
 rw[hb]at hg;refine⟨rfl,arr,te,fz,hg,fun j hj=> ?_⟩;have hj':=hc j hj;rw[zC (by omega)]at hj'⊢;obtain⟨_,arr',te',fz',hg',hv⟩:=BD hj';rw[jO]at hg' hv;simp only at hg' hv;rw[hg]at hg';simp only[z7,Obj.cells.injEq]at hg';rw[<-hg'.1]at hv;exact hv
theorem zAi {α β:Type}{k:Nat}{g:α->List β}(hg: ∀s,(g s).length=k): ∀l:List α,(l.flatMap g).length=l.length*k
 | []=>by simp
 | s::l=>by rw[zP,zI,zAi hg l,hg,zF,Nat.succ_mul,Nat.add_comm]
theorem zF5 {α β:Type}{k:Nat}{g:α->List β}(hg: ∀s,(g s).length=k): ∀(l:List α) (i j:Nat) (hi:i<l.length),j<k->(l.flatMap g)[i*k+j]? =(g l[i])[j]?
 | s::l,0,j,_,hj=>by
  rw[zP,Nat.zero_mul,Nat.zero_add,qB (by rw[hg];exact hj)];rfl
 | s::l,i+1,j,h,hj=>by
  have ih:=zF5 hg l i j (by simpa using h) hj;rw[zP,qF (by rw[hg,Nat.succ_mul];omega)];have:(i+1)*k+j - (g s).length=i*k+j:=by rw[hg,Nat.succ_mul];omega
  rw[this,ih];rfl
theorem srows_arg {α:Type}[Inhabited α]{H:Type}{enc:TypeId×Value->H}{P:Program}{w:World}{base:Nat}{held:Bool}{fuel:Nat}{v:Value}{x:DataW H×List MemPlace}{t e:TypeId}{k:Nat}(hk:0<k){vals:α->List Value}(hvl: ∀s,(vals s).length=k){good:α->Prop}(ht:P.underlying t=some (.slice e))(hc:P.cellsOf e=k)
  (hd: ∀ {fuel:Nat} {cs:List Value} {x:DataW H×List MemPlace},DataW.trod enc P w base (fun _=>true) held fuel e cs=some x-> ∃s,cs=vals s/\good s)
  (h:DataW.trod enc P w base (fun _=>true) held fuel t [v]=some x):
  ∃l:List α,Rw k (H0 w) (bI w.heap.size v) l.length (l.flatMap fun s=>(vals s).map (cellAV w.heap.size))/\ ∀s∈l,good s:=by
 have hgl: ∀s,((vals s).map (cellAV w.heap.size)).length=k:=fun s=>by rw[qA,hvl]
 rcases Deep.open_slice ht h with⟨h1,_⟩ | ⟨a,len,cap,m,n,D,Pl,h1,_,hl,_,hm,_,hx⟩
 ·simp only[List.cons.injEq,and_true]at h1;subst h1;exact⟨[],⟨by simp, .inl ⟨rfl,rfl⟩⟩,by simp⟩
 ·simp only[List.cons.injEq,and_true]at h1;subst h1;simp only[if_true]at hm;subst hm;by_cases h0:m=0
  ·subst h0;obtain rfl:len=0:=by omega
   exact⟨[],⟨by simp, .inr (.inl ⟨rfl,rfl⟩)⟩,by simp⟩
  ·simp only[hc]at hx;have hp: ∀i,i<m-> ∃p:α,w.cells? base (a.add (i*k)) k=some (vals p)/\good p:=fun i hi=>by
    obtain⟨cs,k1,k2⟩:=hx i hi;obtain⟨p,rfl,hs⟩:=hd k2;exact⟨p,k1,hs⟩
   obtain⟨Px,hP⟩:=Deep.choose_lt hp;obtain⟨b,o,sp⟩:=a;obtain⟨c1,arr,te,fz,hg,hat0⟩:=BC (hP 0 (by omega)).1 hk;have hsp:sp=none:=by simpa[Addr.add]using c1
   subst hsp;rw[jO]at hg;simp only at hg;have hat: ∀i,i<m-> ∀j,j<k->arr[o+i*k+j]? =(vals (Px i))[j]? :=fun i hi j hj=>by
    obtain⟨_,arr',te',fz',hg',hv⟩:=BC (hP i hi).1 hk;rw[jO]at hg' hv;simp only at hg' hv;rw[hg]at hg';simp only[z7,Obj.cells.injEq]at hg';rw[hg'.1];exact hv j hj
   have hmk:(m - 1)*k+k=m*k:=by rw[<-Nat.succ_mul,Nat.succ_eq_add_one,Nat.sub_add_cancel (by omega)]
   have hsz:o+m*k<=arr.size:=by
    have h2:=hat (m - 1) (by omega) (k - 1) (by omega);rw[zC (by rw[hvl];omega)]at h2;have:=(Array.getElem?_eq_some_iff.1 h2).1;omega
   have hlk:len*k<=m*k:=zW _ (by omega);rw[zIN w (by omega) (zEW hg)];refine⟨(List.range len).map Px,⟨zAi hgl _, .inr (.inr ⟨b,o,2*m,_,te,0,false,by simp,zJ2 w hg,zEW hg,by simp;omega, ?_⟩)⟩, ?_⟩
   ·apply List.ext_getElem?;intro q;simp only[qA,List.length_range];by_cases hq:q<len*k
    ·have hqi:q / k<len:=Nat.div_lt_of_lt_mul (by rw[Nat.mul_comm];exact hq);have hqj:q % k<k:=Nat.mod_lt _ hk;have e1:q / k*k+q % k=q:=by rw[Nat.mul_comm];exact Nat.div_add_mod q k
     rw[qI hq,qG,qJ,Array.getElem?_toList];have h3:=hat (q / k) (by omega) (q % k) hqj;rw[Nat.add_assoc,e1]at h3;have h4:=zF5 hgl ((List.range len).map Px) (q / k) (q % k) (by simpa using hqi) hqj;rw[e1]at h4;rw[h3,h4,qJ];simp only[List.getElem_map,List.getElem_range]
    ·rw[List.getElem?_eq_none (by simp;omega),List.getElem?_eq_none (by rw[zAi hgl];simp;omega)]
   ·intro p hp;obtain⟨i,hi,rfl⟩:=List.mem_map.1 hp;exact(hP i (by have:=List.mem_range.1 hi;omega)).2
end Go.Eng
end
section
namespace Go.Di
open Go.Nd (Str Kvs putP delP lookP Srt mayK)
open Go.Eng (ltS qY y8 xT kU wY)
open Go.Bt (inP y6 uA)
open Go.Dr
def zM9 (u:Nat):Str->Nat
 | []=>u
 | b::l=>zM9 (Nat.xor u b.toNat*1099511628211 % 18446744073709551616) l
theorem KT: ∀(s:Str) (u:Nat),u<18446744073709551616->zM9 u s<18446744073709551616
 | [],_,h=>h
 | _::l,_,_=>KT l _ (Nat.mod_lt _ (by omega))
theorem Q2: ∀(s:Str) (b:UInt8) (u:Nat),zM9 u (s++[b])=Nat.xor (zM9 u s) b.toNat*1099511628211 % 18446744073709551616
 | [],_,_=>rfl
 | _::l,b,_=>Q2 l b _
def YP (s:Str):Nat:=zM9 14695981039346656037 s
def yD (s:Str):Nat:=YP s % 1024
theorem wS (s:Str):yD s<1024:=Nat.mod_lt _ (by omega)
def hasB (s:Str):Bool:=s.any fun b=>b==0||b==47
def wR (s:Str):Bool:= !(decide (s=[])||decide (s=[46])||decide (s=[46,46])||decide (s=[46,115,110,97,112,115,104,111,116]))&&decide (s.length<=32)&& !hasB s
theorem ZF {s:Str}(h:wR s=true):s.length<=32:=by
 simp only[wR,z8,zE]at h;exact h.1.2
structure En where
 c:Nat
 i:Nat
 n:Str
def En.fine (e:En):Prop:=1<=e.c/\e.c<=262144/\1<=e.i/\e.i<=2147483647/\wR e.n=true/\yD e.n=(e.c - 1) / 256
def vZ (d:Nat):Str:=101::dig d 4
def yG (d c:Nat):Str:=vZ d++dig c 4
def vR (e:En):Str:=dig e.i 4++e.n
def xF (d:Nat)(e:En):Str×Str:=(yG d e.c,vR e)
def zIq (p:Str×Str):En:=⟨num (p.1.drop 5),num (p.2.take 4),p.2.drop 4⟩
theorem kS (d:Nat):(vZ d).length=5:=by simp[vZ,yY]
theorem uB (d c:Nat):(yG d c).length=9:=by simp[yG,kS,yY]
theorem Y9 {d:Nat}{e:En}(h:e.fine):zIq (xF d e)=e:=by
 obtain⟨h1,h2,h3,h4,_⟩:=h;have a1:(yG d e.c).drop 5=dig e.c 4:=by rw[yG,List.drop_left' (kS d)]
 have a2:(vR e).take 4=dig e.i 4:=by rw[vR,List.take_left' (yY _ _)]
 have a3:(vR e).drop 4=e.n:=by rw[vR,List.drop_left' (yY _ _)]
 simp only[zIq,xF,a1,a2,a3];rw[uY (by omega),uY (by omega)]
theorem zAd (p:Str)(a b:Str):ltS (p++a) (p++b)=ltS a b:=by
 induction p with
 | nil=>rfl
 | cons x p ih=>rw[List.cons_append,List.cons_append,bU,ih]
theorem aF (d:Nat){a b:Nat}(ha:a<4294967296)(hb:b<4294967296):ltS (yG d a) (yG d b)=decide (a<b):=by
 rw[yG,yG,zAd,zBW,Nat.mod_eq_of_lt (by omega),Nat.mod_eq_of_lt (by omega)]
theorem zBo: ∀ {a b:Str} (x:Str),a.length=b.length->ltS a b=true->ltS (a++x) b=true
 | [],[],_,_,h=>by rw[qY]at h;cases h
 | u::a,v::b,x,hl,h=>by
  rw[kB]at h;rw[List.cons_append,kB];simp only[Bool.or_eq_true,z8]at h⊢;rcases h with h | ⟨h1,h2⟩
  ·exact .inl h
  ·exact .inr ⟨h1,zBo x (by simpa using hl) h2⟩
theorem WN {d e:Nat}(c:Nat)(h:d<e)(he:e<4294967296):ltS (yG d c) (vZ e)=true:=by
 rw[yG];refine zBo _ (by rw[kS,kS]) ?_;rw[vZ,vZ,bU,zBW,Nat.mod_eq_of_lt (by omega),Nat.mod_eq_of_lt (by omega)];exact decide_eq_true h
theorem U4: ∀ {a b:Str} (x:Str),a.length=b.length->ltS a b=true->ltS a (b++x)=true
 | [],[],_,_,h=>by rw[qY]at h;cases h
 | u::a,v::b,x,hl,h=>by
  rw[kB]at h;rw[List.cons_append,kB];simp only[Bool.or_eq_true,z8]at h⊢;rcases h with h | ⟨h1,h2⟩
  ·exact .inl h
  ·exact .inr ⟨h1,U4 x (by simpa using hl) h2⟩
theorem zHp {d e:Nat}(c:Nat)(h:d<=e)(he:e<4294967296):ltS (yG e c) (vZ d)=false:=by
 rcases Nat.eq_or_lt_of_le h with rfl | h
 ·have:=zAd (vZ d) (dig c 4) [];rw[List.append_nil]at this;rw[yG,this];rfl
 ·have h1:ltS (vZ d) (vZ e)=true:=by
   rw[vZ,vZ,bU,zBW,Nat.mod_eq_of_lt (by omega),Nat.mod_eq_of_lt (by omega)];exact decide_eq_true h
  exact kU (U4 (dig c 4) (by rw[kS,kS]) h1)
theorem zHJ {d a b:Nat}(ha:a<4294967296)(hb:b<4294967296)(h:yG d a=yG d b):a=b:=by
 rw[yG,yG,List.append_cancel_left_eq]at h;have:=congrArg num h;rwa[uY (by omega),uY (by omega)]at this
theorem zMY {d a b c:Nat}{v:Str}(ha:a<4294967296)(hb:b<4294967296)(hc:c<4294967296):inP (yG d a) (yG d b) (yG d c,v)=(decide (a<=c)&&decide (c<b)):=by
 have hne:(yG d b).isEmpty=false:=by
  cases h:yG d b with
  | nil=>have:=uB d b;rw[h]at this;simp at this
  | cons _ _=>rfl
 simp only[inP,y6,hne,Bool.false_or,aF d hc ha,aF d hc hb];congr 1;rw[<-decide_not];simp
theorem zJi {d a c:Nat}{v:Str}(hd:d<2147483648)(ha:a<4294967296)(hc:c<4294967296):inP (yG d a) (vZ (d+1)) (yG d c,v)=decide (a<=c):=by
 simp only[inP,y6,aF d hc ha,WN c (show d<d+1 by omega) (by omega),Bool.or_true,Bool.and_true];rw[<-decide_not];simp
def KM (d:Nat)(kv:Kvs):Prop:=Srt kv/\ ∀p∈kv,inP (yG d 1) (vZ (d+1)) p=true-> ∃e:En,e.fine/\p=xF d e
theorem zKY {d a b:Nat}{p:Str×Str}(hd:d<2147483648)(ha:1<=a)(ha2:a<4294967296)(h:inP (yG d a) (yG d b) p=true):inP (yG d 1) (vZ (d+1)) p=true:=by
 have hne:(yG d b).isEmpty=false:=by
  cases h:yG d b with
  | nil=>have:=uB d b;rw[h]at this;simp at this
  | cons _ _=>rfl
 simp only[inP,y6,hne,Bool.false_or,z8,Bool.not_eq_true',Bool.or_eq_true]at h⊢;refine⟨?_, .inr (y8 h.2 (WN b (by omega) (by omega)))⟩
 cases hb:ltS p.1 (yG d 1)with
 | false=>rfl
 | true=>
  have h1:yG d 1=yG d a\/ltS (yG d 1) (yG d a)=true:=by
   by_cases e:a=1
   ·exact .inl (by rw[e])
   ·exact .inr (by rw[aF d (by omega) ha2];exact decide_eq_true (by omega))
  have:=Bt.lt_of_lt_le hb h1;rw[this]at h;cases h.1
theorem zHL {d a:Nat}{p:Str×Str}(ha:1<=a)(ha2:a<4294967296)(h:inP (yG d a) (vZ (d+1)) p=true):inP (yG d 1) (vZ (d+1)) p=true:=by
 simp only[inP,z8,Bool.not_eq_true']at h⊢;refine⟨?_,h.2⟩
 cases hb:ltS p.1 (yG d 1)with
 | false=>rfl
 | true=>
  have h1:yG d 1=yG d a\/ltS (yG d 1) (yG d a)=true:=by
   by_cases e:a=1
   ·exact .inl (by rw[e])
   ·exact .inr (by rw[aF d (by omega) ha2];exact decide_eq_true (by omega))
  have:=Bt.lt_of_lt_le hb h1;rw[this]at h;cases h.1
def chE (d h:Nat)(kv:Kvs):List En:=(kv.filter (inP (yG d (h*256+1)) (yG d (h*256+257)))).map zIq
def liE (d b:Nat)(kv:Kvs):List En:=(kv.filter (inP (yG d (b+1)) (vZ (d+1)))).map zIq
theorem zAc {d:Nat} : ∀ {l:Kvs},(∀p∈l,∃e:En,e.fine/\p=xF d e)->l=(l.map zIq).map (xF d)/\ ∀e∈l.map zIq,e.fine
 | [],_=>⟨rfl,by simp⟩
 | p::l,h=>by
  obtain⟨e,he,rfl⟩:=h p (by simp);obtain⟨h1,h2⟩:=zAc (l:=l) fun q hq=>h q (by simp[hq])
  rw[List.map_cons,List.map_cons,Y9 he,<-h1];refine⟨rfl,fun x hx=> ?_⟩;rcases List.mem_cons.1 hx with rfl | hx
  ·exact he
  ·exact h2 x hx
theorem KM.chain {d h:Nat}{kv:Kvs}(f:KM d kv)(hd:d<2147483648)(hh:h<1024):kv.filter (inP (yG d (h*256+1)) (yG d (h*256+257)))=(chE d h kv).map (xF d)/\(∀e∈chE d h kv,e.fine/\yD e.n=h)/\ ∀e:En,e.fine->(e∈chE d h kv↔xF d e∈kv/\yD e.n=h):=by
 have hp: ∀p∈kv.filter (inP (yG d (h*256+1)) (yG d (h*256+257))),∃e:En,e.fine/\p=xF d e:=fun p hp=>by
  rw[List.mem_filter]at hp;exact f.2 p hp.1 (zKY hd (by omega) (by omega) hp.2)
 obtain⟨h1,h2⟩:=zAc hp;have hin: ∀e:En,e.fine->(inP (yG d (h*256+1)) (yG d (h*256+257)) (xF d e)=true↔yD e.n=h):=fun e he=>by
  obtain⟨q1,q2,_,_,_,q6⟩:=he;rw[xF,zMY (by omega) (by omega) (by omega),q6];simp only[z8,zE];omega
 have h3: ∀e:En,e.fine->(e∈chE d h kv↔xF d e∈kv/\yD e.n=h):=fun e he=>by
  constructor
  ·intro hm;have hm':xF d e∈kv.filter (inP (yG d (h*256+1)) (yG d (h*256+257))):=by rw[h1];exact List.mem_map_of_mem hm
   rw[List.mem_filter]at hm';exact⟨hm'.1,(hin e he).1 hm'.2⟩
  ·rintro⟨g1,g2⟩
   have:xF d e∈kv.filter (inP (yG d (h*256+1)) (yG d (h*256+257))):=List.mem_filter.2 ⟨g1,(hin e he).2 g2⟩;have:=List.mem_map_of_mem (f:=zIq) this;rwa[Y9 he]at this
 exact⟨h1,fun e he=>⟨h2 e he,((h3 e (h2 e he)).1 he).2⟩,h3⟩
theorem KM.list {d b:Nat}{kv:Kvs}(f:KM d kv)(hd:d<2147483648)(hb:b<=262144):kv.filter (inP (yG d (b+1)) (vZ (d+1)))=(liE d b kv).map (xF d)/\(∀e∈liE d b kv,e.fine/\b<e.c)/\ ∀e:En,e.fine->(e∈liE d b kv↔xF d e∈kv/\b<e.c):=by
 have hp: ∀p∈kv.filter (inP (yG d (b+1)) (vZ (d+1))),∃e:En,e.fine/\p=xF d e:=fun p hp=>by
  rw[List.mem_filter]at hp;exact f.2 p hp.1 (zHL (by omega) (by omega) hp.2)
 obtain⟨h1,h2⟩:=zAc hp;have hin: ∀e:En,e.fine->(inP (yG d (b+1)) (vZ (d+1)) (xF d e)=true↔b<e.c):=fun e he=>by
  obtain⟨q1,q2,_,_,_,q6⟩:=he;rw[xF,zJi (by omega) (by omega) (by omega)];simp only[zE];omega
 have h3: ∀e:En,e.fine->(e∈liE d b kv↔xF d e∈kv/\b<e.c):=fun e he=>by
  constructor
  ·intro hm;have hm':xF d e∈kv.filter (inP (yG d (b+1)) (vZ (d+1))):=by rw[h1];exact List.mem_map_of_mem hm
   rw[List.mem_filter]at hm';exact⟨hm'.1,(hin e he).1 hm'.2⟩
  ·rintro⟨g1,g2⟩
   have:xF d e∈kv.filter (inP (yG d (b+1)) (vZ (d+1))):=List.mem_filter.2 ⟨g1,(hin e he).2 g2⟩;have:=List.mem_map_of_mem (f:=zIq) this;rwa[Y9 he]at this
 exact⟨h1,fun e he=>⟨h2 e he,((h3 e (h2 e he)).1 he).2⟩,h3⟩
def vV (d:Nat)(nm:Str)(kv:Kvs):Option En:=(chE d (yD nm) kv).find? fun e=>decide (e.n=nm)
theorem KM.found {d:Nat}{nm:Str}{kv:Kvs}{e:En}(f:KM d kv)(hd:d<2147483648)(h:vV d nm kv=some e):e.fine/\xF d e∈kv/\e.n=nm:=by
 obtain⟨_,h2,h3⟩:=f.chain hd (wS nm);have hm:=List.mem_of_find?_eq_some h;have hn:=List.find?_some h;exact⟨(h2 e hm).1,((h3 e (h2 e hm).1).1 hm).1,of_decide_eq_true hn⟩
theorem KM.find_none {d:Nat}{nm:Str}{kv:Kvs}(f:KM d kv)(hd:d<2147483648):vV d nm kv=none↔ ∀e:En,e.fine->xF d e∈kv->e.n≠nm:=by
 obtain⟨_,h2,h3⟩:=f.chain hd (wS nm);rw[vV,List.find?_eq_none];constructor
 ·intro h e he hm hn;exact h e ((h3 e he).2 ⟨hm,by rw[hn]⟩) (decide_eq_true hn)
 ·intro h e he hn;exact h e (h2 e he).1 ((h3 e (h2 e he).1).1 he).1 (of_decide_eq_true hn)
def uS (l:List En)(p:Nat):Bool:=l.any fun e=>(e.c - 1) % 256==p
def hZ (l:List En):Option Nat:=(List.range 256).find? fun p=> !uS l p
theorem KM.free {d:Nat}{nm:Str}{kv:Kvs}{i p:Nat}(f:KM d kv)(hd:d<2147483648)(hp:hZ (chE d (yD nm) kv)=some p)(hi:1<=i)(hi2:i<=2147483647)(hm:wR nm=true):
  p<256/\(⟨yD nm*256+p+1,i,nm⟩:En).fine/\ ∀q∈kv,q.1≠yG d (yD nm*256+p+1):=by
 have h1:=List.mem_of_find?_eq_some hp;have h2:=List.find?_some hp;rw[List.mem_range]at h1;have hh:=wS nm;have hf:(⟨yD nm*256+p+1,i,nm⟩:En).fine:=⟨by simp only;omega,by simp only;omega,hi,hi2,hm,by simp only;omega⟩;refine⟨h1,hf,fun q hq e=> ?_⟩;obtain⟨_,g2,g3⟩:=f.chain hd hh;have hin:inP (yG d 1) (vZ (d+1)) q=true:=by
  obtain⟨a,b⟩:=q;simp only at e;rw[e,zJi hd (by omega) (by omega)];exact decide_eq_true (by omega)
 obtain⟨x,hx,rfl⟩:=f.2 q hq hin;have hc:=zHJ (d:=d) (by have:=hx.2.1;omega) (by omega) e;have hxh:yD x.n=yD nm:=by rw[hx.2.2.2.2.2,hc];omega
 have hxm:=(g3 x hx).2 ⟨hq,hxh⟩;simp only[uS,Bool.not_eq_true',List.any_eq_false,beq_iff_eq]at h2;exact h2 x hxm (by rw[hc];omega)
end Go.Di
end
section
namespace Go.Eng
theorem zAE {a b:Nat}(ha:a<18014398509481984)(hb:b<256):qO .or (.int .i64 ((a*256:Nat):Int)) (.int .i64 (b:Int))=some (.int .i64 (((a*256+b):Nat):Int)):=by
 have h3:a*256||| b=a*256+b:=by
  have:=Nat.two_pow_add_eq_or_of_lt (b:=b) (i:=8) (by omega) a;rw[Nat.mul_comm a 256];exact this.symm
 have hk:keq .i64 .i64=true:=rfl;have hA:BitVec.ofInt 64 ((a*256:Nat):Int)=BitVec.ofNat 64 (a*256):=BitVec.ofInt_natCast _ _;have hB:BitVec.ofInt 64 (b:Int)=BitVec.ofNat 64 b:=BitVec.ofInt_natCast _ _;have hv:(BitVec.ofNat 64 (a*256)||| BitVec.ofNat 64 b).toNat=a*256+b:=by
  rw[BitVec.toNat_or,BitVec.toNat_ofNat,BitVec.toNat_ofNat,Nat.mod_eq_of_lt (by omega),Nat.mod_eq_of_lt (by omega),h3]
 have h6:qO .or (.int .i64 (.ofNat (a*256))) (.int .i64 (.ofNat b))=fO.slow .or .i64 (.ofNat (a*256)) (.ofNat b):=by
  simp only[qO,vD,hk,cond_true,fO,IntKind.signed,Bool.not_true,Bool.false_and,cond_false]
 have h7:fO.slow .or .i64 (.ofNat (a*256)) (.ofNat b)=some (.int .i64 ((a*256+b:Nat):Int)):=by
  have h8:fO.slow .or .i64 (.ofNat (a*256)) (.ofNat b)=fI (IntKind.wrap .i64 ((BitVec.ofInt 64 ((a*256:Nat):Int)||| BitVec.ofInt 64 (b:Int)).toNat:Nat)) (fun n=>some (.int .i64 n)):=rfl;rw[h8,zAm,hA,hB,hv,wrap_i64 (by omega) (by omega)]
 exact h6.trans h7
theorem Z2 {a b:Nat}(ha:a<18446744073709551616)(hb:b<256):qO .xor (.int .u64 ((a:Nat):Int)) (.int .u64 (b:Int))=some (.int .u64 ((Nat.xor a b:Nat):Int))/\Nat.xor a b<18446744073709551616:=by
 have h1:Nat.blt a (ZH .u64)=true:=by rw[zL];exact ha
 have h2:Nat.blt b (ZH .u64)=true:=by rw[zL];exact Nat.lt_trans hb (by decide)
 have hl:Nat.xor a b<18446744073709551616:=Nat.xor_lt_two_pow (n:=64) ha (Nat.lt_trans hb (by decide));have hk:keq .u64 .u64=true:=rfl;have h5:IntKind.wrap .u64 ((Nat.xor a b:Nat):Int)=((Nat.xor a b:Nat):Int):=by rw[wrap_u64];omega
 have h4:fO .xor .u64 (.ofNat a) (.ofNat b)=some (.int .u64 ((Nat.xor a b:Nat):Int)):=by
  simp only[fO,IntKind.signed,Bool.not_false,h1,h2,Bool.and_self,cond_true,wH,Int.ofNat_eq_natCast,h5]
 have h6:qO .xor (.int .u64 (.ofNat a)) (.int .u64 (.ofNat b))=fO .xor .u64 (.ofNat a) (.ofNat b):=by simp only[qO,vD,hk,cond_true]
 exact⟨h6.trans h4,hl⟩
theorem zIK {a:Nat}(ha:a<18446744073709551616):qO .and (.int .u64 ((a:Nat):Int)) (.int .u64 ((1023:Nat):Int))=some (.int .u64 ((a % 1024:Nat):Int)):=by
 have h1:Nat.blt a (ZH .u64)=true:=by rw[zL];exact ha
 have h2:Nat.blt 1023 (ZH .u64)=true:=rfl;have hl:Nat.land a 1023=a % 1024:=Nat.and_two_pow_sub_one_eq_mod a 10;have hk:keq .u64 .u64=true:=rfl;have h5:IntKind.wrap .u64 ((a % 1024:Nat):Int)=((a % 1024:Nat):Int):=by rw[wrap_u64];omega
 have h4:fO .and .u64 (.ofNat a) (.ofNat 1023)=some (.int .u64 ((a % 1024:Nat):Int)):=by
  simp only[fO,IntKind.signed,Bool.not_false,h1,h2,Bool.and_self,cond_true,hl,wH,Int.ofNat_eq_natCast,h5]
 have h6:qO .and (.int .u64 (.ofNat a)) (.int .u64 (.ofNat 1023))=fO .and .u64 (.ofNat a) (.ofNat 1023):=by simp only[qO,vD,hk,cond_true]
 exact h6.trans h4
end Go.Eng
namespace Go.Eng.Sh
open Go.Nd (Ptr yH qQ Kvs Srt)
open Go.Bt Go.Dr Go.Di
theorem slA4 (A:Nat):gW 4 1 (.ptr A 0) none none none=some (.slice A 0 4 8):=rfl
theorem dB (D:Dyn)(n:Nat)(hn:100<=n){H:AH}(hk:H.ok)(x:Nat)(hx:x<9223372036854775808):
  ∃H',f32 D n [.int .i64 ((x:Nat):Int)] H=some (S (dig x 4),H')/\Prs H H':=by
 obtain⟨H1,A,b1,p1,g1,m1,n1⟩:=box hk (.cells (gP x 4 0) 115 1 false);have hb1: ∀K,bA (some (.cells [(.int .u8 ((0:Nat):Int)),(.int .u8 ((0:Nat):Int)),(.int .u8 ((0:Nat):Int)),(.int .u8 ((0:Nat):Int))] 115 1 false,fun A=> .ptr A 0)) H K=K (.ptr A 0) H1:=fun K=>b1 _ K
 have lp:=kI (b:=zFA D n) 4 (fun i us H'=>us=[.int .i64 ((x:Nat):Int), .ptr A 0, .int .i64 ((i:Nat):Int)]/\Prs H H'/\H'.h.get A=some (.cells (gP x 4 i) 115 1 false)) (fun i us H' hi ⟨hus,P,g⟩=>by
  subst hus;obtain⟨H2,e2,g2,s2⟩:=zJa P.ok g (o:=i) (x:= .int .u8 ((x / 256 ^ (4 - 1 - i) % 256:Nat):Int)) rfl (by simp[gP];omega);rw[zCS x 4 hi]at g2;refine⟨_,H2, ?_,rfl,P.fresh s2 (fun B hB=>by omega),g2⟩;have hs2:((3:Nat):Int) - ((i:Nat):Int)=((4 - 1 - i:Nat):Int):=by omega
  have hm8:((8:Nat):Int)*((4 - 1 - i:Nat):Int)=((8*(4 - 1 - i):Nat):Int):=by omega
  have hpw:(2:Nat) ^ (8*(4 - 1 - i))=256 ^ (4 - 1 - i):=zEh _;have hshr:qO .shr (.int .i64 ((x:Nat):Int)) (.int .i64 ((8*(4 - 1 - i):Nat):Int))=some (.int .i64 ((x / 256 ^ (4 - 1 - i):Nat):Int)):=by
   rw[XE _ _ (by omega) (show 8*(4 - 1 - i)<=64 by omega),<-hpw];congr 2
   all_goals(rw[Int.natCast_ediv,Int.natCast_pow];rfl)
  have hw:IntKind.wrap .u8 ((x / 256 ^ (4 - 1 - i):Nat):Int)=((x / 256 ^ (4 - 1 - i) % 256:Nat):Int):=by rw[wrap_u8];omega
  have hix:QW 4 1 (.ptr A 0) (.int .i64 ((i:Nat):Int))=some (.ptr A i):=by rw[dO 4 A 0 .i64 i rfl hi,Nat.zero_add]
  have hiI:((i:Nat):Int)< ((4:Nat):Int):=by omega
  have hi1:((i:Nat):Int)+((1:Nat):Int)=((i+1:Nat):Int):=by omega
  simp(maxSteps:=999999)(disch:=omega) only[zFA,eZ,hiI,hs2,hm8,hshr,hw,hix,e2,hi1]) n _ H1 ⟨rfl,p1,g1⟩ (by omega)
 obtain⟨r,us,H2,e2,rfl,P2,g2⟩:=lp;refine⟨H2, ?_,P2⟩;have last:qT (r+1) (zFA D n) [.int .i64 ((x:Nat):Int), .ptr A 0, .int .i64 ((4:Nat):Int)] H2=some (.exit 0 [.ptr A 0],H2):=qU (by simp only[zFA,eZ,zS]);have hcv:zD6 (.slice A 0 4 8) H2=some (S (dig x 4)):=ZK (n:=4) ⟨by simp[kX,yY], .inr (.inr ⟨_,_,_,_,_,_,_,rfl,g2,P2.ok.lt g2,by simp[gP],by
  rw[zGo,List.drop_zero,zK (by simp[gP]),gP];refine List.map_congr_left fun j hj=> ?_
  rw[if_pos (by simpa using hj)]⟩)⟩ (by simp)
 simp(maxSteps:=999999)(disch:=omega) only[f32,eZ,hb1,e2,last,zNE,slA4,hcv]
theorem X3 (D:Dyn)(n:Nat)(hn:100<=n){H:AH}(hk:H.ok){d c:Nat}(hd:d<9223372036854775808)(hc:c<9223372036854775808):
  ∃H',f31 D n [.int .i64 ((d:Nat):Int), .int .i64 ((c:Nat):Int)] H=some (S (yG d c),H')/\Prs H H':=by
 obtain⟨H1,e1,p1⟩:=dB D n hn hk d hd;obtain⟨H2,e2,p2⟩:=dB D n hn p1.ok c hc;refine⟨H2, ?_,p1.trans p2⟩;have hS:(AV.str 1 101)=S [101]:=rfl;have h1:jU .add (S [101]) (S (dig d 4))=some (S (vZ d)):=by rw[vK _ _ (by simp[yY])];rfl
 have h2:jU .add (S (vZ d)) (S (dig c 4))=some (S (yG d c)):=by rw[vK _ _ (by simp[yY,kS])];rfl
 simp(maxSteps:=999999)(disch:=omega) only[f31,eZ,hS,e1,h1,e2,h2]
theorem UT (D:Dyn)(n:Nat)(hn:100<=n){H:AH}(s:Str)(hs:4<=s.length):f58 D n [S s] H=some (.int .i64 ((num (s.take 4):Nat):Int),H):=by
 have lp:qT n (zI6 D n) [S s, .int .i64 ((0:Nat):Int), .int .i64 ((0:Nat):Int)] H=some (.exit 0 [.int .i64 ((num (s.take 4):Nat):Int)],H):=by
  refine j8 (fun i=>[S s, .int .i64 ((num (s.take i):Nat):Int), .int .i64 ((i:Nat):Int)]) 4 (fun i hi=> ?_) (fun k=> ?_) n (by omega)
  ·have hb:=zMC (s.take i) (i:=3) (by simp;omega);have h7:(256:Nat) ^ 3=16777216:=by decide
   have hx:=xX s .i64 (show i<s.length by omega);have hsh:qO .shl (.int .i64 ((num (s.take i):Nat):Int)) (.int .u64 ((8:Nat):Int))=some (.int .i64 ((num (s.take i)*256:Nat):Int)):=by
    rw[zIJ _ _ _ (by decide)];have h8:(2:Int) ^ 8=256:=by decide
    rw[h8,wrap_i64 (by omega) (by omega)];congr 2
   have hc:=(s[i]).toNat_lt;have hor:=zAE (a:=num (s.take i)) (b:=(s[i]).toNat) (by omega) (by omega);have hw:IntKind.wrap .i64 (((s[i]).toNat:Nat):Int)=(((s[i]).toNat:Nat):Int):=wrap_i64 (by omega) (by omega);have hiI:((i:Nat):Int)< ((4:Nat):Int):=by omega
   have hi1:((i:Nat):Int)+((1:Nat):Int)=((i+1:Nat):Int):=by omega
   simp(maxSteps:=999999)(disch:=omega) only[zI6,eZ,hiI,hsh,hx,hw,hor,hi1,zHw s (show i<s.length by omega)]
  ·refine qU ?_;simp only[zI6,eZ,zS]
 simp only[f58,eZ,lp,zNs]
theorem zLm (D:Dyn)(n:Nat){H:AH}(s:Str)(hn:s.length<n)(hs:s.length<=1000000000):f46 D n [S s] H=some (.int .u64 ((YP s:Nat):Int),H):=by
 have lp:qT n (zI5 D n) [.int .u64 ((14695981039346656037:Nat):Int),S s, .int .i64 ((s.length:Nat):Int), .int .i64 ((0:Nat):Int)] H=some (.exit 0 [.int .u64 ((YP s:Nat):Int)],H):=by
  refine j8 (fun i=>[.int .u64 ((YP (s.take i):Nat):Int),S s, .int .i64 ((s.length:Nat):Int), .int .i64 ((i:Nat):Int)]) s.length (fun i hi=> ?_) (fun k=> ?_) n (by omega)
  ·have hl:YP (s.take i)<18446744073709551616:=KT _ _ (by omega);have hx:=xX s .i64 hi;have hc:=(s[i]).toNat_lt;obtain⟨hxor,hxl⟩:=Z2 (a:=YP (s.take i)) (b:=(s[i]).toNat) hl (by omega);have hw:IntKind.wrap .u64 (((s[i]).toNat:Nat):Int)=(((s[i]).toNat:Nat):Int):=by rw[wrap_u64];omega
   have hmul:qO .mul (.int .u64 ((Nat.xor (YP (s.take i)) (s[i]).toNat:Nat):Int)) (.int .u64 ((1099511628211:Nat):Int))=some (.int .u64 ((YP (s.take (i+1)):Nat):Int)):=by
    rw[XF,wrap_u64,zJ hi];have e:YP (s.take i++[s[i]])=Nat.xor (YP (s.take i)) (s[i]).toNat*1099511628211 % 18446744073709551616:=Q2 _ _ _;rw[e,Int.natCast_emod,Int.natCast_mul];rfl
   have hiI:((i:Nat):Int)< ((s.length:Nat):Int):=by omega
   have hi1:((i:Nat):Int)+((1:Nat):Int)=((i+1:Nat):Int):=by omega
   simp(maxSteps:=999999)(disch:=omega) only[zI5,eZ,hiI,hx,hw,hxor,hmul,hi1]
  ·refine qU ?_;simp only[zI5,eZ,zS,zY]
 simp only[f46,f64,eZ,yT,lp,zNo]
theorem ZJ (D:Dyn)(n:Nat){H:AH}(s:Str)(hn:s.length<n)(hs:s.length<=1000000000):f22 D n [S s] H=some (.int .i64 ((yD s:Nat):Int),H):=by
 have hl:YP s<18446744073709551616:=KT _ _ (by omega);have h1:=zIK hl;have hh:=wS s;have hw:IntKind.wrap .i64 ((YP s % 1024:Nat):Int)=((yD s:Nat):Int):=wrap_i64 (by omega) (by omega);simp only[f22,eZ,zLm D n s hn hs,h1,hw]
theorem jX (D:Dyn)(n:Nat){H:AH}(x:Int):f26 D n [.int .i64 x] H=some (.bool (decide (1<=x)&&decide (x<=2147483647)),H):=by
 by_cases h1:(1:Int)<=x
 ·by_cases h2:x<=2147483647
  ·have a1:((1:Nat):Int)<=x:=by omega
   have a2:x<=((2147483647:Nat):Int):=by omega
   simp only[f26,eZ,a1,a2,h1,h2,decide_true,Bool.and_self]
  ·have a1:((1:Nat):Int)<=x:=by omega
   have a2: ¬x<=((2147483647:Nat):Int):=by omega
   simp only[f26,eZ,a1,a2,h1,h2,decide_true,decide_false,Bool.and_false]
 ·have a1: ¬((1:Nat):Int)<=x:=by omega
  simp only[f26,eZ,a1,h1,decide_false,Bool.false_and]
theorem zLx (D:Dyn)(n:Nat){H:AH}(s:Str)(hs:s.length<4294967281):m50 D n [S s, .str 2 12032] H=some (.bool (hasB s),H):=by
 have h1:Nat.blt s.length 4294967281=true:=by rw[zL];exact hs
 have h2:Nat.beq 12032 12032=true:=rfl;simp only[m50,zIB,S,h1,h2,Bool.and_self,cond_true,QZ,hasB]
theorem zAx (D:Dyn)(n:Nat){H:AH}(s:Str)(hs:s.length<4294967281):f27 D n [S s] H=some (.bool (wR s),H):=by
 have e0:(AV.str 0 0)=S []:=rfl;have e1:(AV.str 1 46)=S [46]:=rfl;have e2:(AV.str 2 11822)=S [46,46]:=rfl;have e3:(AV.str 9 2147850105812604056366)=S [46,115,110,97,112,115,104,111,116]:=rfl;have hc:=zLx D n (H:=H) s hs;by_cases h0:s=[]
 ·have r:wR s=false:=by rw[h0];decide
  have q:_=True:=eq_true h0;simp(config:= { maxSteps:=1000000}) only[f27,zAt,zAs,zAr,eZ,e0,e1,e2,e3,yO,q,r]
 by_cases h1:s=[46]
 ·have r:wR s=false:=by rw[h1];decide
  have q:_=True:=eq_true h1;simp(config:= { maxSteps:=1000000}) only[f27,zAt,zAs,zAr,eZ,e0,e1,e2,e3,yO,h0,q,r]
 by_cases h2:s=[46,46]
 ·have r:wR s=false:=by rw[h2];decide
  have q:_=True:=eq_true h2;simp(config:= { maxSteps:=1000000}) only[f27,zAt,zAs,zAr,eZ,e0,e1,e2,e3,yO,h0,h1,q,r]
 by_cases h3:s=[46,115,110,97,112,115,104,111,116]
 ·have r:wR s=false:=by rw[h3];decide
  have q:_=True:=eq_true h3;simp(config:= { maxSteps:=1000000}) only[f27,zAt,zAs,zAr,eZ,e0,e1,e2,e3,yO,h0,h1,h2,q,r]
 by_cases hl:s.length<=32
 ·have r:wR s= !hasB s:=by simp[wR,h0,h1,h2,h3,hl]
  have hlI:((s.length:Nat):Int)<=((32:Nat):Int):=by omega
  simp(config:= { maxSteps:=1000000}) only[f27,zAt,zAs,zAr,eZ,e0,e1,e2,e3,yO,h0,h1,h2,h3,yT,hlI,hc,r]
 ·have r:wR s=false:=by simp[wR,hl]
  have hlI: ¬((s.length:Nat):Int)<=((32:Nat):Int):=by omega
  simp(config:= { maxSteps:=1000000}) only[f27,zAt,zAs,zAr,eZ,e0,e1,e2,e3,yO,h0,h1,h2,h3,yT,hlI,r]
theorem avI (k:IntKind)(z:Int):aveq (.int k z) (.int k z)=true:=by simp[aveq,kF,kG]
theorem chkI (k:IntKind)(z:Int)(K:Rs):chk (some (.int k z)) (.int k z) K=K:=j9 rfl (avI _ _)
def sdV (d:Nat)(e:En):List AV:=[S e.n, .int .i64 ((e.i:Nat):Int), .int .i64 ((e.c:Nat):Int),S (yG d e.c), .bool true]
abbrev sd0:List AV:=[S [], .int .i64 ((0:Nat):Int), .int .i64 ((0:Nat):Int),S [], .bool false]
theorem zIR {A:Nat}{H:AH}{l:List AV}{e:TypeId}(h:H.h.get A=some (.cells l e 1 false))(hl:l.length=5):ldN 5 (.ptr A 0) H=some (.agg l):=by
 rw[qR h,jP _ _ _ (.inr (by omega)),List.drop_zero,<-hl,zY];rfl
theorem zMt {c:Nat}(h:c<1000000):qO .quo (.int .i64 ((c:Nat):Int)) (.int .i64 ((256:Nat):Int))=some (.int .i64 ((c / 256:Nat):Int)):=by
 rw[zC8 _ _ _ (by omega),Int.tdiv_eq_ediv_of_nonneg (by omega),wrap_i64 (by omega) (by omega)];rfl
theorem zMm {c:Nat}(h:c<1000000):qO .rem (.int .i64 ((c:Nat):Int)) (.int .i64 ((256:Nat):Int))=some (.int .i64 ((c % 256:Nat):Int)):=by
 rw[zC7 _ _ _ (by omega),Int.tmod_eq_emod_of_nonneg (by omega)];rfl
theorem zBV (D:Dyn)(n:Nat)(hn:100<=n){H:AH}(hk:H.ok){d:Nat}{e:En}(hf:e.fine): ∃H',f40 D n [.agg [S (yG d e.c),S (vR e)]] H=some (.tuple [.agg (sdV d e), .bool true],H')/\Prs H H':=by
 obtain⟨f1,f2,f3,f4,f5,f6⟩:=hf;have f7:=ZF f5;obtain⟨H1,A1,b1,p1,g1,m1,n1⟩:=box hk (.cells [S (yG d e.c),S (vR e)] 85 1 false);obtain⟨H2,A2,b2,p2,g2,m2,n2⟩:=box p1.ok (.cells sd0 71 1 false);obtain⟨H3,A4,b3,p3,g3,m3,n3⟩:=box p2.ok (.cells sd0 71 1 false);obtain⟨H4,e4,g4,s4,_⟩:=qX p3.ok g3 (l':=[S [], .int .i64 ((0:Nat):Int), .int .i64 ((0:Nat):Int),S (yG d e.c), .bool false]) rfl rfl;have e4':stN 5 (.ptr A4 0) (.agg [S [], .int .i64 ((0:Nat):Int), .int .i64 ((0:Nat):Int),S (yG d e.c), .bool false]) H3=some (qN,H4):=e4;obtain⟨H5,e5,g5,s5⟩:=zJa s4.ok g4 (o:=2) (x:= .int .i64 ((e.c:Nat):Int)) rfl (by simp);obtain⟨H6,e6,g6,s6⟩:=zJa s5.ok g5 (o:=1) (x:= .int .i64 ((e.i:Nat):Int)) rfl (by simp);obtain⟨H7,e7,g7,s7⟩:=zJa s6.ok g6 (o:=0) (x:=S e.n) rfl (by simp);obtain⟨H8,e8,g8,s8⟩:=zJa s7.ok g7 (o:=4) (x:= .bool true) rfl (by simp);have g8:H8.h.get A4=some (.cells (sdV d e) 71 1 false):=g8;have N1:=p1.next;have N2:=p2.next;have N3:=p3.next;have N4:=s4.next;have N5:=s5.next;have N6:=s6.next;have N7:=s7.next;have N8:=s8.next
 have S38:Stp (fun B=>B=A4) H3 H8:=(((s4.trans s5).trans s6).trans s7).trans s8;have P8:Prs H H8:=((p1.trans p2).trans p3).fresh S38 fun B hB=>by omega
 have g28:H8.h.get A2=some (.cells sd0 71 1 false):=by rw[S38.keep _ (by omega) (by omega)];exact Prs.get p3 p2.ok g2
 obtain⟨H9,e9,g9,s9,n9⟩:=qX P8.ok g28 (l':=sdV d e) rfl rfl;have e9':stN 5 (.ptr A2 0) (.agg (sdV d e)) H8=some (qN,H9):=e9;refine⟨H9, ?_,P8.fresh s9 fun B hB=>by omega⟩;have l1: ∀ {H':AH},H'.h.get A1=some (.cells [S (yG d e.c),S (vR e)] 85 1 false)->ld1 (.ptr A1 0) H'=some (S (yG d e.c))/\ld1 (.ptr A1 1) H'=some (S (vR e)):=fun g=>⟨by rw[qM g];rfl,by rw[qM g];rfl⟩
 have q2:=Prs.get p2 p1.ok g1;have q3:=Prs.get p3 p2.ok q2;have k4: ∀ {H':AH},Stp (fun B=>B=A4) H3 H'->H'.h.get A1=some (.cells [S (yG d e.c),S (vR e)] 85 1 false):=fun s=>by rw[s.keep _ (by omega) (by omega)];exact q3
 have q4:=k4 s4;have q5:=k4 (s4.trans s5);have q6:=k4 ((s4.trans s5).trans s6);have hS:(AV.str 0 0)=S []:=rfl;have hkl:kN (S (yG d e.c))=some (.int .i64 ((9:Nat):Int)):=by rw[yT,uB]
 have vl:(vR e).length=4+e.n.length:=by simp[vR,yY]
 have hvl:kN (S (vR e))=some (.int .i64 ((4+e.n.length:Nat):Int)):=by rw[yT,vl]
 have t9: ¬(((9:Nat):Int)≠((9:Nat):Int)):=by omega
 have t4: ¬((4+e.n.length:Nat):Int)< ((4:Nat):Int):=by omega
 have t1: ¬((e.c:Nat):Int)< ((1:Nat):Int):=by omega
 have t2: ¬((262144:Nat):Int)< ((e.c:Nat):Int):=by omega
 have kd:(yG d e.c).drop 5=dig e.c 4:=by rw[yG,List.drop_left' (kS d)]
 have c1:Z7 (S (yG d e.c)) (some (.int .i64 ((5:Nat):Int))) none=some (S (dig e.c 4)):=by rw[zAZ _ _ (by omega) (by rw[uB];decide)];exact congrArg (fun z=>some (S z)) kd
 have vd:(vR e).drop 4=e.n:=by rw[vR,List.drop_left' (yY _ _)]
 have c2:Z7 (S (vR e)) (some (.int .i64 ((4:Nat):Int))) none=some (S e.n):=by rw[zAZ _ _ (by omega) (by rw[vl];simp)];exact congrArg (fun z=>some (S z)) vd
 have d1: ∀H,f58 D n [S (dig e.c 4)] H=some (.int .i64 ((e.c:Nat):Int),H):=fun H=>by rw[UT D n hn _ (by rw[yY];omega),zK (by rw[yY];omega),uY (by omega)]
 have d2: ∀H,f58 D n [S (vR e)] H=some (.int .i64 ((e.i:Nat):Int),H):=fun H=>by rw[UT D n hn _ (by rw[vl];omega),vR,List.take_left' (yY _ _),uY (by omega)]
 have i1: ∀H,f26 D n [.int .i64 ((e.i:Nat):Int)] H=some (.bool true,H):=fun H=>by
  rw[jX,decide_eq_true (by omega),decide_eq_true (by omega)];rfl
 have y1: ∀H,f27 D n [S e.n] H=some (.bool true,H):=fun H=>by rw[zAx D n _ (by omega),f5]
 have h1: ∀H,f22 D n [S e.n] H=some (.int .i64 (((e.c - 1) / 256:Nat):Int),H):=fun H=>by rw[ZJ D n _ (by omega) (by omega),f6]
 have hsub:((e.c:Nat):Int) - ((1:Nat):Int)=((e.c - 1:Nat):Int):=by omega
 have hq:=zMt (c:=e.c - 1) (by omega);have r52:ld1 (.ptr A4 2) H5=some (.int .i64 ((e.c:Nat):Int)):=by rw[qM g5];rfl
 have r71:ld1 (.ptr A4 1) H7=some (.int .i64 ((e.i:Nat):Int)):=by rw[qM g7];rfl
 have r70:ld1 (.ptr A4 0) H7=some (S e.n):=by rw[qM g7];rfl
 have r72:ld1 (.ptr A4 2) H7=some (.int .i64 ((e.c:Nat):Int)):=by rw[qM g7];rfl
 have r8:ldN 5 (.ptr A4 0) H8=some (.agg (sdV d e)):=zIR g8 rfl;have r9:ldN 5 (.ptr A2 0) H9=some (.agg (sdV d e)):=zIR g9 rfl;have hb1:bxV 85 (.agg [S (yG d e.c),S (vR e)])=some (.cells [S (yG d e.c),S (vR e)] 85 1 false,fun A=> .ptr A 0):=rfl;have hbs:bxV 71 (.agg [S [], .int .i64 ((0:Nat):Int), .int .i64 ((0:Nat):Int),S [], .bool false])=some (.cells sd0 71 1 false,fun A=> .ptr A 0):=rfl;have bs:jT [(0,3),(3,1),(4,1)] [S [], .int .i64 ((0:Nat):Int), .int .i64 ((0:Nat):Int),S [], .bool false] [(1,S (yG d e.c))]=some (.agg [S [], .int .i64 ((0:Nat):Int), .int .i64 ((0:Nat):Int),S (yG d e.c), .bool false]):=rfl;simp(maxSteps:=999999)(disch:=omega) only[f40,eZ,hS,hb1,b1,hbs,b2,(l1 q2).1,hkl,t9,bs,b3,e4',(l1 q4).1,c1,d1,e5,r52,t1,t2,(l1 q5).2,hvl,t4,d2,e6,(l1 q6).2,c2,e7,r71,i1,r70,y1,r72,hsub,hq,h1,chkI,e8,r8,e9',r9]
theorem K8 (m:Nat)(hm:100<=m){H4:AH}{d N0:Nat}{v cv:AV}{l:List En}{σ:Type}{step:σ->En->Bool×σ}{IR:σ->AH->Prop}{W:Nat->Prop}(hk4:H4.ok)(hv4:XU H4 v (l.map (xF d)))(hvb: ∀B,Blk v B->N0<=B)(hW: ∀B,W B->B<N0)(hl:l.length<=100000000)(hf: ∀e∈l,e.fine)
  (hst: ∀s H H',H.ok->IR s H->Prs H H'->IR s H')
  (call: ∀s e H,H4.next<=H.next->H.ok->IR s H->e∈l-> ∃H',callV (s28 (dy (m+1)) (m+1)).S (dy (m+1)) cv [.agg (sdV d e)] H=some (.bool (step s e).1,H')/\IR (step s e).2 H'/\Stp W H H'):
  ∀(rr i kf:Nat) {H:AH} (s:σ),i+rr=l.length->rr<kf->IR s H->Stp W H4 H->
   ∃H',jb 0 (qT kf (zAq (dy (m+1)) (m+1)) [cv,v, .int .i64 ((l.length:Nat):Int), .int .i64 ((i:Nat):Int)] H) (zI9 (dy (m+1)) (m+1))=some (.ret (.int .i64 ((0:Nat):Int)),H')/\IR (jK step (l.drop i) s).2 H'/\Stp W H4 H'
 | _,_,0,_,_,_,hk,_,_=>by omega
 | 0,i,kf+1,H,s,he,_,hI,P=>by
  have hge: ¬((i:Nat):Int)< ((l.length:Nat):Int):=by omega
  have hnil:l.drop i=[]:=zQ (by omega);rw[hnil];refine⟨H, ?_,hI,P⟩;rw[qU (i:=0) (vs':=[]) (H':=H) (by simp(maxSteps:=999999)(disch:=omega) only[zAq,eZ,hge])];simp(maxSteps:=999999)(disch:=omega) only[jb,Nat.beq_refl,cond_true,zI9,eZ]
 | rr+1,i,kf+1,H,s,he,hkf,hI,P=>by
  have hi:i<l.length:=by omega
  have hil:i< (l.map (xF d)).length:=by simpa using hi
  have hv:XU H v (l.map (xF d)):=Rw.stp hv4 P fun B hB e=>by
   have:=hvb B hB;have:=hW B e;omega
  obtain⟨A',o,i1,i2,i3,i4⟩:=hv.at hil;have hg:(l.map (xF d))[i]=xF d l[i]:=by simp
  rw[hg]at i2;have N:=P.next
  have hfe:=hf _ (zR hi);obtain⟨H5,A8,b5,p5,g5,m5,n5⟩:=box P.ok (.cells [S [],S []] 85 1 false);obtain⟨H6,e6,g6,s6,n6⟩:=qX p5.ok g5 (l':=[S (yG d l[i].c),S (vR l[i])]) rfl rfl;have e6':stN 2 (.ptr A8 0) (.agg [S (yG d l[i].c),S (vR l[i])]) H5=some (qN,H6):=e6;have P6:Prs H H6:=p5.fresh s6 fun B hB=>by omega
  have N5:=p5.next;have N6:=s6.next
  obtain⟨H7,e7,p7⟩:=zBV (dy (m+1)) (m+1) (by omega) P6.ok (d:=d) hfe;obtain⟨H8,A9,b8,p8,g8,m8,n8⟩:=box p7.ok (.cells sd0 71 1 false);obtain⟨H9,e9,g9,s9,n9⟩:=qX p8.ok g8 (l':=sdV d l[i]) rfl rfl;have e9':stN 5 (.ptr A9 0) (.agg (sdV d l[i])) H8=some (qN,H9):=e9;have N7:=p7.next;have N8:=p8.next;have N9:=s9.next
  have P9:Prs H H9:=((P6.trans p7).trans p8).fresh s9 fun B hB=>by omega
  obtain⟨H10,e10,I10,s10⟩:=call s l[i] H9 (by omega) s9.ok (hst _ _ _ P.ok hI P9) (zR hi);have P10:Stp W H4 H10:=P.trans ((Prs.stp P9).trans s10) |>.mono fun _ _ x=>x
  have hL:l.drop i=l[i]::l.drop (i+1):=zN hi;have hiI:((i:Nat):Int)< ((l.length:Nat):Int):=by omega
  have hi1:((i:Nat):Int)+((1:Nat):Int)=((i+1:Nat):Int):=by omega
  have hS:(AV.str 0 0)=S []:=rfl;have hbx:bxV 85 (.agg [S [],S []])=some (.cells [S [],S []] 85 1 false,fun A=> .ptr A 0):=rfl;have hbs:bxV 71 (.agg [S [], .int .i64 ((0:Nat):Int), .int .i64 ((0:Nat):Int),S [], .bool false])=some (.cells sd0 71 1 false,fun A=> .ptr A 0):=rfl;have i2':ldN 2 (.ptr A' o) H=some (.agg [S (yG d l[i].c),S (vR l[i])]):=i2;have r6:ldN 2 (.ptr A8 0) H6=some (.agg [S (yG d l[i].c),S (vR l[i])]):=by rw[qR g6];rfl
  have r9:ldN 5 (.ptr A9 0) H9=some (.agg (sdV d l[i])):=zIR g9 rfl;rw[hL]
  cases hc:(step s l[i]).1 with
  | true=>
   rw[hc]at e10;have body:zAq (dy (m+1)) (m+1) [cv,v, .int .i64 ((l.length:Nat):Int), .int .i64 ((i:Nat):Int)] H=some (.norm [cv,v, .int .i64 ((l.length:Nat):Int), .int .i64 ((i+1:Nat):Int)],H10):=by
    simp(maxSteps:=999999)(disch:=omega) only[zAq,eZ,hiI,i1,i2',hS,hbx,b5,e6',r6,e7,qL,nth,hbs,b8,e9',r9,e10,hi1]
   obtain⟨H11,e11,I11,P11⟩:=K8 m hm hk4 hv4 hvb hW hl hf hst call rr (i+1) kf (step s l[i]).2 (by omega) (by omega) I10 P10;refine⟨H11, ?_, ?_,P11⟩
   ·rw[xU body,e11]
   ·simp only[jK,hc,cond_true];exact I11
  | false=>
   rw[hc]at e10;have body:zAq (dy (m+1)) (m+1) [cv,v, .int .i64 ((l.length:Nat):Int), .int .i64 ((i:Nat):Int)] H=some (.exit 0 [],H10):=by
    simp(maxSteps:=999999)(disch:=omega) only[zAq,eZ,hiI,i1,i2',hS,hbx,b5,e6',r6,e7,qL,nth,hbs,b8,e9',r9,e10]
   refine⟨H10, ?_, ?_,P10⟩
   ·rw[qU body];simp(maxSteps:=999999)(disch:=omega) only[jb,Nat.beq_refl,cond_true,zI9,eZ]
   ·simp only[jK,hc,cond_false];exact I10
theorem c256 (h:Nat):((h:Nat):Int)*((256:Nat):Int)=((h*256:Nat):Int)/\((h*256:Nat):Int)+((1:Nat):Int)=((h*256+1:Nat):Int)/\((h*256+1:Nat):Int)+((256:Nat):Int)=((h*256+257:Nat):Int):=by omega
theorem zC3 (m:Nat)(hm:700000000<=m){H:AH}{At M L d h:Nat}{kv:Kvs}(t:wC H At M L kv)(hL:L<=1000000)(hkv:kv.length<=100000000)(f:KM d kv)(hd:d<2147483648)(hh:h<1024)
  {cv:AV} {σ:Type} {step:σ->En->Bool×σ} {IR:σ->AH->Prop} {W:Nat->Prop} (hW: ∀B,W B->B<H.next)
  (hst: ∀s H H',H.ok->IR s H->Prs H H'->IR s H')
  (call: ∀s e H',H.next<=H'.next->H'.ok->IR s H'->e∈chE d h kv-> ∃H'',callV (s28 (dy (m+1)) (m+1)).S (dy (m+1)) cv [.agg (sdV d e)] H'=some (.bool (step s e).1,H'')/\IR (step s e).2 H''/\Stp W H' H'')
  (s:σ) (hI:IR s H):
  ∃H',f28 (dy (m+1)) (m+1) [.ptr At 0, .int .i64 ((d:Nat):Int), .int .i64 ((h:Nat):Int),cv] H=some (.int .i64 ((0:Nat):Int),H')/\IR (jK step (chE d h kv) s).2 H'/\Stp W H H':=by
 have hk:H.ok:=by obtain⟨_,_,_,_,_,_,_,_,_,ti,_⟩:=t;exact ti.ok
 obtain⟨c1,c2,c3⟩:=f.chain hd hh;obtain⟨H1,e1,p1⟩:=X3 (dy (m+1)) (m+1) (by omega) hk (d:=d) (c:=h*256+1) (by omega) (by omega);obtain⟨H2,e2,p2⟩:=X3 (dy (m+1)) (m+1) (by omega) p1.ok (d:=d) (c:=h*256+257) (by omega) (by omega);have P2:=p1.trans p2;have hlen:(jF (yG d (h*256+1)) (yG d (h*256+257)) kv).length<=2147483647:=by have:=List.length_filter_le (inP (yG d (h*256+1)) (yG d (h*256+257))) kv;rw[jF];omega
 obtain⟨H3,v,e3,p3,gv,fv⟩:=zEc m hm (t.prs P2) hL (by omega) (yG d (h*256+1)) (yG d (h*256+257)) (most:=2147483647) (by omega) hlen;have hb:jF (yG d (h*256+1)) (yG d (h*256+257)) kv=(chE d h kv).map (xF d):=c1;have hcl:(chE d h kv).length<=100000000:=by
  have:=List.length_filter_le (inP (yG d (h*256+1)) (yG d (h*256+257))) kv;rw[c1,qA]at this;omega
 rw[hb]at gv;have hv:XU H3 v ((chE d h kv).map (xF d)):=gv.row;have P3:=P2.trans p3;have N2:=P2.next;have N3:=P3.next
 obtain⟨H4,e4,I4,s4⟩:=K8 m (by omega) p3.ok hv (N0:=H.next) (fun B hB=>by have:=fv B hB;omega) hW hcl (fun e he=>(c2 e he).1) hst (fun s e H' hn hk' hI' he=>call s e H' (by omega) hk' hI' he) (chE d h kv).length 0 (m+1) s (by omega) (by omega) (hst _ _ _ hk hI P3) (Stp.refl p3.ok)
 rw[List.drop_zero]at I4;refine⟨H4, ?_,I4,(Prs.stp P3).trans s4⟩;obtain⟨hm1,ha1,ha2⟩:=c256 h;have t00: ¬(((0:Nat):Int)≠((0:Nat):Int)):=by omega
 have hln:lnSl v=some (.int .i64 (((chE d h kv).length:Nat):Int)):=by rw[hv.lnSl,qA]
 simp(maxSteps:=999999)(disch:=omega) only[f28,eZ,hm1,ha1,e1,ha2,e2,e3,qL,nth,t00,hln,e4]
def zBz (d:Nat):Option En->List AV
 | some e=>sdV d e
 | none=>sd0
def Q3 (nm:Str)(s:Option En)(e:En):Bool×Option En:=bif decide (e.n=nm)then(false,some e)else(!s.isSome,s)
theorem zB2 (nm:Str): ∀l:List En,(jK (Q3 nm) l none).2=l.find? fun e=>decide (e.n=nm)
 | []=>rfl
 | e::l=>by
  by_cases h:e.n=nm
  ·rw[List.find?_cons_of_pos (by simp[h])];simp only[jK,Q3,h,decide_true,cond_true,cond_false]
  ·rw[List.find?_cons_of_neg (by simp[h]),<-zB2 nm l];simp only[jK,Q3,h,decide_false,cond_false,cond_true,Option.isSome_none,Bool.not_false]
set_option maxRecDepth 20000 in
theorem zCX (m n:Nat)(a b:Nat)(x:AV)(H:AH):callV (s28 (dy (m+1)) n).S (dy (m+1)) (.func 55 [] [.ptr a 0, .ptr b 0]) [x] H=f55 (dy m) m [x, .ptr a 0, .ptr b 0] H:=rfl
theorem zHb (D:Dyn)(n:Nat){H:AH}(hk:H.ok){d X5 X8:Nat}{nm:Str}{e:En}{s:Option En}(b5:Box H X5 (S nm))(g8:H.h.get X8=some (.cells (zBz d s) 71 1 false))(h58:X5≠X8):
  ∃H',f55 D n [.agg (sdV d e), .ptr X5 0, .ptr X8 0] H=some (.bool (Q3 nm s e).1,H')/\(Box H' X5 (S nm)/\H'.h.get X8=some (.cells (zBz d (Q3 nm s e).2) 71 1 false))/\Stp (fun B=>B=X8) H H':=by
 obtain⟨H1,A3,b1,p1,g1,m1,n1⟩:=box hk (.cells (sdV d e) 71 1 false);have N1:=p1.next
 have l8:=hk.lt g8;have l5:=b5.lt hk;have b51:=b5.mono hk p1 fun x=>x
 have g81:=Prs.get p1 hk g8;have hbx:bxV 71 (.agg (sdV d e))=some (.cells (sdV d e) 71 1 false,fun A=> .ptr A 0):=rfl;have r4:ld1 (.ptr A3 4) H1=some (.bool true):=by rw[qM g1];rfl
 have r0:ld1 (.ptr A3 0) H1=some (S e.n):=by rw[qM g1];rfl
 have q4: ∀ {H':AH} {l:List AV},H'.h.get X8=some (.cells l 71 1 false)->ld1 (.ptr X8 4) H'=l[4]? :=fun g=>by rw[qM g]
 by_cases h:e.n=nm
 ·have hst:Q3 nm s e=(false,some e):=by simp only[Q3,h,decide_true,cond_true]
  have hlen:(zBz d s).length=5:=by cases s<;>rfl
  obtain⟨H2,e2,g2,s2,n2⟩:=qX p1.ok g81 (l':=sdV d e) (hlen.symm) rfl;rw[hlen]at e2;have e2':stN 5 (.ptr X8 0) (.agg (sdV d e)) H1=some (qN,H2):=e2;have r5:ldN 5 (.ptr A3 0) H1=some (.agg (sdV d e)):=zIR g1 rfl;have r8:ld1 (.ptr X8 4) H2=some (.bool true):=by rw[q4 g2];rfl
  rw[hst];refine⟨H2, ?_,⟨b51.mono p1.ok s2 h58,g2⟩,(Prs.stp p1).trans s2⟩;simp(maxSteps:=999999)(disch:=omega) only[f55,zLg,eZ,hbx,b1,r4,r0,b51.ld,yO,h,r5,e2',r8]
 ·have hst:Q3 nm s e=(!s.isSome,s):=by simp only[Q3,h,decide_false,cond_false]
  have r8:ld1 (.ptr X8 4) H1=some (.bool s.isSome):=by rw[q4 g81];cases s<;>rfl
  rw[hst];refine⟨H1, ?_,⟨b51,g81⟩,Prs.stp p1⟩;simp(maxSteps:=999999)(disch:=omega) only[f55,zLg,eZ,hbx,b1,r4,r0,b51.ld,yO,h,r8]
def hU (d:Nat)(nm:Str)(kv:Kvs):List AV:=bif wR nm then(match vV d nm kv with
 | some e=>[.agg (sdV d e), .int .i64 ((0:Nat):Int)]
 | none=>[.agg sd0, .int .i64 ((5:Nat):Int)])else[.agg sd0, .int .i64 ((56:Nat):Int)]
theorem zBU (m:Nat)(hm:700000000<=m){H:AH}{At M L d:Nat}{kv:Kvs}{nm:Str}(t:wC H At M L kv)(hL:L<=1000000)(hkv:kv.length<=100000000)(f:KM d kv)(hd:1<=d)(hd2:d<=2147483647)(hnm:nm.length<4294967281):
  ∃H',f37 (dy (m+1)) (m+1) [.ptr At 0, .int .i64 ((d:Nat):Int),S nm] H=some (.tuple (hU d nm kv),H')/\Prs H H':=by
 have hk:H.ok:=by obtain⟨_,_,_,_,_,_,_,_,_,ti,_⟩:=t;exact ti.ok
 obtain⟨H1,X5,b1,p1,g1,m1,n1⟩:=box hk (.cells [S nm] 9 1 false);obtain⟨H2,X6,b2,p2,g2,m2,n2⟩:=box p1.ok (.cells sd0 71 1 false);have N1:=p1.next;have N2:=p2.next
 have P2:=p1.trans p2;have hbS:qW (S nm)=[S nm]:=rfl;have hS:(AV.str 0 0)=S []:=rfl;have hbs:bxV 71 (.agg [S [], .int .i64 ((0:Nat):Int), .int .i64 ((0:Nat):Int),S [], .bool false])=some (.cells sd0 71 1 false,fun A=> .ptr A 0):=rfl;have bs:jT [(0,3),(3,1),(4,1)] [S [], .int .i64 ((0:Nat):Int), .int .i64 ((0:Nat):Int),S [], .bool false] []=some (.agg sd0):=rfl;have x5:Box H2 X5 (S nm):=⟨_,Prs.get p2 p1.ok g1⟩;have i1: ∀H,f26 (dy (m+1)) (m+1) [.int .i64 ((d:Nat):Int)] H=some (.bool true,H):=fun H=>by
  rw[jX,decide_eq_true (by omega),decide_eq_true (by omega)];rfl
 have y1: ∀H,f27 (dy (m+1)) (m+1) [S nm] H=some (.bool (wR nm),H):=fun H=>zAx _ _ _ hnm
 cases hy:wR nm with
 | false=>
  obtain⟨H3,e3,g3,s3,n3⟩:=qX p2.ok g2 (l':=sd0) rfl rfl;have e3':stN 5 (.ptr X6 0) (.agg sd0) H2=some (qN,H3):=e3;have r3:ldN 5 (.ptr X6 0) H3=some (.agg sd0):=zIR g3 rfl;refine⟨H3, ?_,P2.fresh s3 fun B hB=>by omega⟩;rw[hy]at y1;simp(maxSteps:=999999)(disch:=omega) only[f37,eZ,cq,hbS,b1,hS,hbs,b2,i1,x5.ld,y1,bs,e3',r3,hU,hy,cond_false]
 | true=>
  rw[hy]at y1;have hl:=ZF hy;obtain⟨H3,X8,b3,p3,g3,m3,n3⟩:=box p2.ok (.cells sd0 71 1 false);have N3:=p3.next
  have P3:=P2.trans p3;have x53:Box H3 X5 (S nm):=x5.mono p2.ok p3 fun x=>x
  obtain⟨H4,e4,⟨x54,g84⟩,s4⟩:=zC3 m hm (t.prs P3) hL hkv f (d:=d) (h:=yD nm) (by omega) (wS nm) (cv:= .func 55 [] [.ptr X5 0, .ptr X8 0]) (step:=Q3 nm)
   (IR:=fun s H=>Box H X5 (S nm)/\H.h.get X8=some (.cells (zBz d s) 71 1 false)) (W:=fun B=>B=X8) (fun B hB=>by omega) (fun s H H' hk hI P=>⟨hI.1.mono hk P fun x=>x,Prs.get P hk hI.2⟩)
   (fun s e H' hn hk' hI he=>by
    rw[zCX];exact zHb (dy m) m hk' hI.1 hI.2 (by omega)) none ⟨x53,g3⟩
  have hrun:(jK (Q3 nm) (chE d (yD nm) kv) none).2=vV d nm kv:=zB2 nm _;rw[hrun]at g84;have N4:=s4.next
  have h1: ∀H,f22 (dy (m+1)) (m+1) [S nm] H=some (.int .i64 ((yD nm:Nat):Int),H):=fun H=>ZJ _ _ _ (by omega) (by omega)
  have g64:H4.h.get X6=some (.cells sd0 71 1 false):=by rw[s4.keep _ (by omega) (by omega)];exact Prs.get p3 p2.ok g2
  have P4:Prs H H4:=P3.fresh s4 fun B hB=>by omega
  have t00: ¬(((0:Nat):Int)≠((0:Nat):Int)):=by omega
  cases ho:vV d nm kv with
  | none=>
   rw[ho]at g84;obtain⟨H5,e5,g5,s5,n5⟩:=qX s4.ok g64 (l':=sd0) rfl rfl;have e5':stN 5 (.ptr X6 0) (.agg sd0) H4=some (qN,H5):=e5;have r5:ldN 5 (.ptr X6 0) H5=some (.agg sd0):=zIR g5 rfl;have r84:ld1 (.ptr X8 4) H4=some (.bool false):=by rw[qM g84];rfl
   refine⟨H5, ?_,P4.fresh s5 fun B hB=>by omega⟩;simp(maxSteps:=999999)(disch:=omega) only[f37,eZ,cq,hbS,b1,hS,hbs,b2,i1,x5.ld,y1,b3,x53.ld,h1,e4,t00,r84,bs,e5',r5,hU,hy,ho,cond_true]
  | some e=>
   rw[ho]at g84;obtain⟨H5,e5,g5,s5,n5⟩:=qX s4.ok g64 (l':=sdV d e) rfl rfl;have e5':stN 5 (.ptr X6 0) (.agg (sdV d e)) H4=some (qN,H5):=e5;have r5:ldN 5 (.ptr X6 0) H5=some (.agg (sdV d e)):=zIR g5 rfl;have r84:ld1 (.ptr X8 4) H4=some (.bool true):=by rw[qM g84];rfl
   have r8:ldN 5 (.ptr X8 0) H4=some (.agg (sdV d e)):=zIR g84 rfl;refine⟨H5, ?_,P4.fresh s5 fun B hB=>by omega⟩;simp(maxSteps:=999999)(disch:=omega) only[f37,eZ,cq,hbS,b1,hS,hbs,b2,i1,x5.ld,y1,b3,x53.ld,h1,e4,t00,r84,r8,e5',r5,hU,hy,ho,cond_true]
def WW (d:Nat)(nm:Str)(kv:Kvs):List AV:=bif wR nm then(match vV d nm kv with
 | some e=>[.int .i64 ((e.i:Nat):Int), .int .i64 ((e.c:Nat):Int), .int .i64 ((0:Nat):Int)]
 | none=>[.int .i64 ((0:Nat):Int), .int .i64 ((0:Nat):Int), .int .i64 ((5:Nat):Int)])else[.int .i64 ((0:Nat):Int), .int .i64 ((0:Nat):Int), .int .i64 ((56:Nat):Int)]
theorem zAy (d:Nat)(nm:Str)(kv:Kvs):(∃e,wR nm=true/\vV d nm kv=some e/\hU d nm kv=[.agg (sdV d e), .int .i64 ((0:Nat):Int)]/\WW d nm kv=[.int .i64 ((e.i:Nat):Int), .int .i64 ((e.c:Nat):Int), .int .i64 ((0:Nat):Int)])\/(∃x:Nat,x≠0/\x<=1000/\hU d nm kv=[.agg sd0, .int .i64 ((x:Nat):Int)]/\WW d nm kv=[.int .i64 ((0:Nat):Int), .int .i64 ((0:Nat):Int), .int .i64 ((x:Nat):Int)]):=by
 cases hy:wR nm with
 | false=>exact .inr ⟨56,by omega,by omega,by simp only[hU,hy,cond_false],by simp only[WW,hy,cond_false]⟩
 | true=>cases ho:vV d nm kv with
  | none=>exact .inr ⟨5,by omega,by omega,by simp only[hU,hy,cond_true,ho],by simp only[WW,hy,cond_true,ho]⟩
  | some e=>exact .inl ⟨e,rfl,rfl,by simp only[hU,hy,cond_true,ho],by simp only[WW,hy,cond_true,ho]⟩
theorem zIn (m:Nat)(hm:700000000<=m){H:AH}{At M L d:Nat}{kv:Kvs}{nm:Str}(t:wC H At M L kv)(hL:L<=1000000)(hkv:kv.length<=100000000)(f:KM d kv)(hd:1<=d)(hd2:d<=2147483647)(hnm:nm.length<4294967281):
  ∃H',f12 (dy (m+1)) (m+1) [.ptr At 0, .int .i64 ((d:Nat):Int),S nm] H=some (.tuple (WW d nm kv),H')/\Prs H H':=by
 obtain⟨H1,e1,p1⟩:=zBU m hm t hL hkv f hd hd2 hnm;obtain⟨H2,A9,b2,p2,g2,m2,n2⟩:=box p1.ok (.cells sd0 71 1 false);have N1:=p1.next
 have hS:(AV.str 0 0)=S []:=rfl;have hbs:bxV 71 (.agg [S [], .int .i64 ((0:Nat):Int), .int .i64 ((0:Nat):Int),S [], .bool false])=some (.cells sd0 71 1 false,fun A=> .ptr A 0):=rfl;rcases zAy d nm kv with⟨e,_,_,h1,h2⟩ | ⟨x,_,_,h1,h2⟩
 ·rw[h1]at e1;rw[h2];obtain⟨H3,e3,g3,s3,n3⟩:=qX p2.ok g2 (l':=sdV d e) rfl rfl;have e3':stN 5 (.ptr A9 0) (.agg (sdV d e)) H2=some (qN,H3):=e3;have r1:ld1 (.ptr A9 1) H3=some (.int .i64 ((e.i:Nat):Int)):=by rw[qM g3];rfl
  have r2:ld1 (.ptr A9 2) H3=some (.int .i64 ((e.c:Nat):Int)):=by rw[qM g3];rfl
  refine⟨H3, ?_,(p1.trans p2).fresh s3 fun B hB=>by omega⟩;simp(maxSteps:=999999)(disch:=omega) only[f12,eZ,e1,qL,nth,hS,hbs,b2,e3',r1,r2]
 ·rw[h1]at e1;rw[h2];obtain⟨H3,e3,g3,s3,n3⟩:=qX p2.ok g2 (l':=sd0) rfl rfl;have e3':stN 5 (.ptr A9 0) (.agg sd0) H2=some (qN,H3):=e3;have r1:ld1 (.ptr A9 1) H3=some (.int .i64 ((0:Nat):Int)):=by rw[qM g3];rfl
  have r2:ld1 (.ptr A9 2) H3=some (.int .i64 ((0:Nat):Int)):=by rw[qM g3];rfl
  refine⟨H3, ?_,(p1.trans p2).fresh s3 fun B hB=>by omega⟩;simp(maxSteps:=999999)(disch:=omega) only[f12,eZ,e1,qL,nth,hS,hbs,b2,e3',r1,r2]
def aG (d:Nat)(nm:Str)(kv:Kvs):Option En:=bif wR nm then vV d nm kv else none
def YX (d:Nat)(nm:Str)(kv:Kvs):Kvs:=match aG d nm kv with
 | some e=>Nd.delP (yG d e.c) kv
 | none=>kv
def zCQ (d:Nat)(nm:Str)(kv:Kvs):List AV:=match aG d nm kv with
 | some e=>[.int .i64 ((e.i:Nat):Int), .int .i64 ((0:Nat):Int)]
 | none=>[.int .i64 ((0:Nat):Int), .int .i64 ((bif wR nm then 5 else 56:Nat):Int)]
theorem zCJ (d:Nat)(nm:Str)(kv:Kvs):(∃e,wR nm=true/\vV d nm kv=some e/\aG d nm kv=some e/\hU d nm kv=[.agg (sdV d e), .int .i64 ((0:Nat):Int)])\/(∃x:Nat,x≠0/\x=(bif wR nm then 5 else 56)/\aG d nm kv=none/\hU d nm kv=[.agg sd0, .int .i64 ((x:Nat):Int)]):=by
 cases hy:wR nm with
 | false=>exact .inr ⟨56,by omega,rfl,by simp only[aG,hy,cond_false],by simp only[hU,hy,cond_false]⟩
 | true=>cases ho:vV d nm kv with
  | none=>exact .inr ⟨5,by omega,rfl,by simp only[aG,hy,cond_true,ho],by simp only[hU,hy,cond_true,ho]⟩
  | some e=>exact .inl ⟨e,rfl,rfl,by simp only[aG,hy,cond_true,ho],by simp only[hU,hy,cond_true,ho]⟩
theorem zIr (m:Nat)(hm:700000000<=m){H:AH}{At M L d:Nat}{kv:Kvs}{nm:Str}(t:wC H At M L kv)(hL:L<=1000000)(hkv:kv.length<=100000000)(f:KM d kv)(hd:1<=d)(hd2:d<=2147483647)(hnm:nm.length<4294967281):
  ∃H',f10 (dy (m+1)) (m+1) [.ptr At 0, .int .i64 ((d:Nat):Int),S nm] H=some (.tuple (zCQ d nm kv),H')/\wC H' At M (L+200) (YX d nm kv)/\Stp (fun B=>B=At\/B=M) H H':=by
 obtain⟨H1,e1,p1⟩:=zBU m hm t hL hkv f hd hd2 hnm;obtain⟨H2,A8,b2,p2,g2,m2,n2⟩:=box p1.ok (.cells sd0 71 1 false);have N1:=p1.next
 have hS:(AV.str 0 0)=S []:=rfl;have hbs:bxV 71 (.agg [S [], .int .i64 ((0:Nat):Int), .int .i64 ((0:Nat):Int),S [], .bool false])=some (.cells sd0 71 1 false,fun A=> .ptr A 0):=rfl;have t00: ¬(((0:Nat):Int)≠((0:Nat):Int)):=by omega
 rcases zCJ d nm kv with⟨e,hy,ho,h1,h2⟩ | ⟨x,hx,hx2,h1,h2⟩
 ·rw[h2]at e1;obtain⟨f1,f2,f3⟩:=f.found (by omega) ho;obtain⟨H3,e3,g3,s3,n3⟩:=qX p2.ok g2 (l':=sdV d e) rfl rfl;have e3':stN 5 (.ptr A8 0) (.agg (sdV d e)) H2=some (qN,H3):=e3;have P3:Prs H H3:=(p1.trans p2).fresh s3 fun B hB=>by omega
  have r3:ld1 (.ptr A8 3) H3=some (S (yG d e.c)):=by rw[qM g3];rfl
  have hz:YY (yG d e.c) kv=0:=by
   have h1:Nd.mayK (yG d e.c)=true:=by simp[Nd.mayK,uB]
   have h2:=(zBl f.1).2 f2;simp only[YY,h1,h2,if_true,Option.isSome_some]
  obtain⟨m',rfl⟩: ∃m',m=m'+1:=⟨m - 1,by omega⟩;obtain⟨H4,e4,t4,s4⟩:=zLr m' (m'+1+1) (by omega) (by omega) (t.prs P3) (by omega) (by omega) (k:=yG d e.c);rw[hz]at e4;rw[if_pos hz]at t4;have N3:=P3.next
  have lt:=t.lt;have g4:H4.h.get A8=some (.cells (sdV d e) 71 1 false):=by rw[s4.keep _ (s3.ok.lt g3) (by omega)];exact g3
  have r4:ld1 (.ptr A8 1) H4=some (.int .i64 ((e.i:Nat):Int)):=by rw[qM g4];rfl
  refine⟨H4, ?_,by rw[YX,h1];exact t4,(Prs.stp P3).trans s4⟩;simp(maxSteps:=999999)(disch:=omega) only[f10,eZ,e1,qL,nth,hS,hbs,b2,e3',t00,r3,e4,r4,zCQ,h1]
 ·rw[h2]at e1;obtain⟨H3,e3,g3,s3,n3⟩:=qX p2.ok g2 (l':=sd0) rfl rfl;have e3':stN 5 (.ptr A8 0) (.agg sd0) H2=some (qN,H3):=e3;have P3:Prs H H3:=(p1.trans p2).fresh s3 fun B hB=>by omega
  refine⟨H3, ?_,by rw[YX,h1];exact(t.prs P3).up (by omega),Prs.stp P3⟩;have tx:((x:Nat):Int)≠((0:Nat):Int):=by omega
  simp(maxSteps:=999999)(disch:=omega) only[f10,eZ,e1,qL,nth,hS,hbs,b2,e3',tx,ne_eq,not_false_eq_true,zCQ,h1,<-hx2]
def xQ (l:List En):List AV:=(List.range 256).map fun p=> .bool (uS l p)
theorem zCp (l:List En):(xQ l).length=256:=by simp[xQ]
theorem J5 (l:List En){p:Nat}(h:p<256):(xQ l)[p]? =some (.bool (uS l p)):=by simp[xQ,h]
theorem zCn (l:List En)(e:En):(xQ l).set ((e.c - 1) % 256) (.bool true)=xQ (l++[e]):=by
 apply List.ext_getElem
 ·simp[xQ]
 ·intro j h1 h2;simp only[xQ,List.getElem_set,List.getElem_map,List.getElem_range,uS,List.any_append,List.any_cons,List.any_nil,Bool.or_false];by_cases h:(e.c - 1) % 256=j
  ·rw[if_pos h,beq_iff_eq.2 h,Bool.or_true]
  ·rw[if_neg h,beq_eq_false_iff_ne.2 h,Bool.or_false]
def YH (nm:Str)(l:List En):Bool:=l.any fun e=>decide (e.n=nm)
theorem vX (nm:Str)(l:List En)(e:En):YH nm (l++[e])=(YH nm l||decide (e.n=nm)):=by simp[YH]
def cU (nm:Str)(l:List En)(e:En):Bool×List En:=(!YH nm (l++[e]),l++[e])
theorem zDW (nm:Str): ∀(es l:List En),YH nm l=false->YH nm (jK (cU nm) es l).2=YH nm es/\(YH nm es=false->(jK (cU nm) es l).2=l++es)
 | [],l,h=>⟨h,fun _=>(List.append_nil l).symm⟩
 | e::es,l,h=>by
  by_cases hn:e.n=nm
  ·have h1:YH nm (l++[e])=true:=by rw[vX,h,decide_eq_true hn];rfl
   have h2:YH nm (e::es)=true:=by simp[YH,hn]
   simp only[jK,cU,h1,Bool.not_true,cond_false];exact⟨h2.symm,fun h=>by rw[h2]at h;cases h⟩
  ·have h1:YH nm (l++[e])=false:=by rw[vX,h,decide_eq_false hn];rfl
   have h2:YH nm (e::es)=YH nm es:=by simp[YH,hn]
   simp only[jK,cU,h1,Bool.not_false,cond_true];rw[h2];obtain⟨g1,g2⟩:=zDW nm es (l++[e]) h1;exact⟨g1,fun h=>by rw[g2 h,List.append_assoc];rfl⟩
theorem zIP (nm:Str)(l:List En):YH nm l=(l.find? fun e=>decide (e.n=nm)).isSome:=by
 rw[Bool.eq_iff_iff,List.find?_isSome,YH,List.any_eq_true]
set_option maxRecDepth 20000 in
theorem zGn (m n:Nat)(a b c:Nat)(x:AV)(H:AH):callV (s28 (dy (m+1)) n).S (dy (m+1)) (.func 29 [] [.ptr a 0, .ptr b 0, .ptr c 0]) [x] H=f29 (dy m) m [x, .ptr a 0, .ptr b 0, .ptr c 0] H:=rfl
def AI (X10 X11 X6:Nat)(nm:Str)(l:List En)(H:AH):Prop:=H.h.get X10=some (.cells (xQ l) 68 1 false)/\Box H X11 (.bool (YH nm l))/\Box H X6 (S nm)
theorem zLF (D:Dyn)(n:Nat){H:AH}(hk:H.ok){d X10 X11 X6:Nat}{nm:Str}{e:En}{l:List En}(hI:AI X10 X11 X6 nm l H)(hne:X6<X10/\X10<X11)(hf:e.fine):
  ∃H',f29 D n [.agg (sdV d e), .ptr X10 0, .ptr X11 0, .ptr X6 0] H=some (.bool (cU nm l e).1,H')/\AI X10 X11 X6 nm (cU nm l e).2 H'/\Stp (fun B=>B=X10\/B=X11) H H':=by
 obtain⟨g10,b11,b6⟩:=hI;obtain⟨f1,f2,_⟩:=hf;obtain⟨H1,A4,b1,p1,g1,m1,n1⟩:=box hk (.cells (sdV d e) 71 1 false);have N1:=p1.next
 have l10:=hk.lt g10;have l11:=b11.lt hk;have l6:=b6.lt hk;have hp:(e.c - 1) % 256<256:=Nat.mod_lt _ (by omega);obtain⟨H2,e2,g2,s2⟩:=zJa p1.ok (Prs.get p1 hk g10) (o:=(e.c - 1) % 256) (x:= .bool true) rfl (by rw[zCp];omega);rw[zCn]at g2;have N2:=s2.next
 have g12:H2.h.get A4=some (.cells (sdV d e) 71 1 false):=by rw[s2.keep _ n1 (by omega)];exact g1
 have b112:Box H2 X11 (.bool (YH nm l)):=(b11.mono hk p1 fun x=>x).mono p1.ok s2 (by omega);have b62:Box H2 X6 (S nm):=(b6.mono hk p1 fun x=>x).mono p1.ok s2 (by omega);obtain⟨H3,e3,b113,s3⟩:=b112.st s2.ok (x:= .bool (YH nm (l++[e]))) rfl;have g103:H3.h.get X10=some (.cells (xQ (l++[e])) 68 1 false):=by rw[s3.keep _ (by omega) (by omega)];exact g2
 have b63:Box H3 X6 (S nm):=b62.mono s2.ok s3 (by omega);have hbx:bxV 71 (.agg (sdV d e))=some (.cells (sdV d e) 71 1 false,fun A=> .ptr A 0):=rfl;have r2:ld1 (.ptr A4 2) H1=some (.int .i64 ((e.c:Nat):Int)):=by rw[qM g1];rfl
 have r4:ld1 (.ptr A4 4) H2=some (.bool true):=by rw[qM g12];rfl
 have r0:ld1 (.ptr A4 0) H2=some (S e.n):=by rw[qM g12];rfl
 have hsub:((e.c:Nat):Int) - ((1:Nat):Int)=((e.c - 1:Nat):Int):=by omega
 have hrem:=zMm (c:=e.c - 1) (by omega);have hix:QW 256 1 (.ptr X10 0) (.int .i64 (((e.c - 1) % 256:Nat):Int))=some (.ptr X10 ((e.c - 1) % 256)):=by rw[dO 256 X10 0 .i64 _ rfl hp,Nat.zero_add]
 refine⟨H3, ?_,⟨g103,b113,b63⟩,((Prs.stp p1).trans (s2.mono fun _ _ x=> .inl x)).trans (s3.mono fun _ _ x=> .inr x)⟩;rw[vX]at e3 b113
 cases ha:YH nm l with
 | true=>
  rw[ha,Bool.true_or]at e3;have hst:(cU nm l e).1=false:=by simp only[cU,vX,ha,Bool.true_or,Bool.not_true]
  rw[ha]at b112;rw[ha,Bool.true_or]at b113;simp(maxSteps:=999999)(disch:=omega) only[f29,eZ,hbx,b1,r2,hsub,hrem,hix,e2,b112.ld,e3,b113.ld,hst]
 | false=>
  rw[ha,Bool.false_or]at e3 b113;rw[ha]at b112;by_cases hn:e.n=nm
  ·have hst:(cU nm l e).1=false:=by simp only[cU,vX,ha,hn,decide_true,Bool.or_true,Bool.not_true]
   rw[decide_eq_true hn]at e3 b113;simp(maxSteps:=999999)(disch:=omega) only[f29,eZ,hbx,b1,r2,hsub,hrem,hix,e2,b112.ld,r4,r0,b62.ld,yO,hn,e3,b113.ld,hst]
  ·have hst:(cU nm l e).1=true:=by simp only[cU,vX,ha,hn,decide_false,Bool.or_false,Bool.not_false]
   rw[decide_eq_false hn]at e3 b113;simp(maxSteps:=999999)(disch:=omega) only[f29,eZ,hbx,b1,r2,hsub,hrem,hix,e2,b112.ld,r4,r0,b62.ld,yO,hn,e3,b113.ld,hst]
def cO (d:Nat)(nm:Str)(ino:Int)(kv:Kvs):Nat×Nat×Kvs:=
 if 1<=ino/\ino<=2147483647 then
  if wR nm=true then
   if(vV d nm kv).isSome=true then(0,6,kv)else
    match hZ (chE d (yD nm) kv)with
    | none=>(0,3,kv)
    | some p=>(yD nm*256+p+1,0,Nd.putP (yG d (yD nm*256+p+1)) (vR ⟨yD nm*256+p+1,ino.toNat,nm⟩) kv)
  else(0,56,kv)
 else(0,1,kv)
def jR (l:List En):Nat:=(hZ l).getD 256
theorem QF (l:List En):jR l<=256/\(∀q,q<jR l->uS l q=true)/\(jR l<256->uS l (jR l)=false/\hZ l=some (jR l))/\(jR l=256->hZ l=none):=by
 cases h:hZ l with
 | none=>
  have e:jR l=256:=by rw[jR,h];rfl
  rw[e];refine⟨Nat.le_refl _,fun q hq=> ?_,fun h=>absurd h (by omega),fun _=>rfl⟩;have:=List.find?_eq_none.1 h q (List.mem_range.2 hq);simpa using this
 | some p=>
  have e:jR l=p:=by rw[jR,h];rfl
  rw[e];obtain⟨h1,h2,h3⟩:=List.find?_range_eq_some.1 h;have hp:=List.mem_range.1 h2;refine⟨by omega,fun q hq=> ?_,fun _=>⟨by simpa using h1,rfl⟩,fun h=>by omega⟩;have:=h3 q hq;simpa using this
theorem zCB (D:Dyn)(n:Nat)(hn:300<=n){H:AH}{X10:Nat}{l:List En}{a0 a1 a3 a6 hh:AV}(g:H.h.get X10=some (.cells (xQ l) 68 1 false)):
  qT n (zNc D n) [a0,a1,a3,a6, .ptr X10 0,hh, .int .i64 ((0:Nat):Int)] H=some (.exit 0 [a0,a1,a3,a6,hh, .int .i64 ((jR l:Nat):Int)],H):=by
 obtain⟨p1,p2,p3,p4⟩:=QF l;refine j8 (fun i=>[a0,a1,a3,a6, .ptr X10 0,hh, .int .i64 ((i:Nat):Int)]) (jR l) (fun i hi=> ?_) (fun k=> ?_) n (by omega)
 ·have hiI:((i:Nat):Int)< ((256:Nat):Int):=by omega
  have hix:QW 256 1 (.ptr X10 0) (.int .i64 ((i:Nat):Int))=some (.ptr X10 i):=by rw[dO 256 X10 0 .i64 i rfl (by omega),Nat.zero_add]
  have r:ld1 (.ptr X10 i) H=some (.bool true):=by rw[qM g,J5 l (by omega),p2 i hi]
  have hi1:((i:Nat):Int)+((1:Nat):Int)=((i+1:Nat):Int):=by omega
  simp(maxSteps:=999999)(disch:=omega) only[zNc,eZ,hiI,hix,r,hi1]
 ·refine qU ?_;by_cases h:jR l<256
  ·have hiI:((jR l:Nat):Int)< ((256:Nat):Int):=by omega
   have hix:QW 256 1 (.ptr X10 0) (.int .i64 ((jR l:Nat):Int))=some (.ptr X10 (jR l)):=by rw[dO 256 X10 0 .i64 _ rfl h,Nat.zero_add]
   have r:ld1 (.ptr X10 (jR l)) H=some (.bool false):=by rw[qM g,J5 l h,(p3 h).1]
   simp(maxSteps:=999999)(disch:=omega) only[zNc,eZ,hiI,hix,r]
  ·have hiI: ¬((jR l:Nat):Int)< ((256:Nat):Int):=by omega
   simp(maxSteps:=999999)(disch:=omega) only[zNc,eZ,hiI]
theorem zCo:rep 256 [AV.bool false]=xQ []:=by
 rw[xQ,show(fun p=>AV.bool (uS [] p))=fun _=>AV.bool false from rfl,List.map_const',List.length_range,zE1]
theorem cookA {h p c:Nat}(hc:c=h*256+p+1):((h:Nat):Int)*((256:Nat):Int)=((h*256:Nat):Int)/\((h*256:Nat):Int)+((p:Nat):Int)=((h*256+p:Nat):Int)/\((h*256+p:Nat):Int)+((1:Nat):Int)=((c:Nat):Int):=by omega
theorem zNX (s:Str)(K:Rs):chk (some (S s)) (S s) K=K:=j9 rfl (by simp[aveq,S])
theorem zLs (m:Nat)(hm:700000000<=m){H:AH}{At M L d:Nat}{kv:Kvs}{nm:Str}{ino:Int}(t:wC H At M L kv)(hL:L<=1000000)(hkv:kv.length<=100000000)(f:KM d kv)(hd:1<=d)(hd2:d<=2147483647)(hnm:nm.length<4294967281):
  ∃H',f8 (dy (m+1)) (m+1) [.ptr At 0, .int .i64 ((d:Nat):Int),S nm, .int .i64 ino] H=some (.tuple [.int .i64 (((cO d nm ino kv).1:Nat):Int), .int .i64 (((cO d nm ino kv).2.1:Nat):Int)],H')/\wC H' At M (L+200) (cO d nm ino kv).2.2/\Stp (fun B=>B=At\/B=M) H H':=by
 have hk:H.ok:=by obtain⟨_,_,_,_,_,_,_,_,_,ti,_⟩:=t;exact ti.ok
 obtain⟨H1,X6,b1,p1,g1,m1,n1⟩:=box hk (.cells [S nm] 9 1 false);have N1:=p1.next
 have x6:Box H1 X6 (S nm):=⟨_,g1⟩;have hbS:qW (S nm)=[S nm]:=rfl;have i1: ∀H,f26 (dy (m+1)) (m+1) [.int .i64 ((d:Nat):Int)] H=some (.bool true,H):=fun H=>by
  rw[jX,decide_eq_true (by omega),decide_eq_true (by omega)];rfl
 have y1: ∀H,f27 (dy (m+1)) (m+1) [S nm] H=some (.bool (wR nm),H):=fun H=>zAx _ _ _ hnm
 by_cases hi: ¬(1<=ino/\ino<=2147483647)
 ·have i2: ∀H,f26 (dy (m+1)) (m+1) [.int .i64 ino] H=some (.bool false,H):=fun H=>by
   rw[jX,<-Bool.decide_and,decide_eq_false hi]
  have ha:cO d nm ino kv=(0,1,kv):=by rw[cO,if_neg hi]
  rw[ha];refine⟨H1, ?_,(t.prs p1).up (by omega),Prs.stp p1⟩;simp(maxSteps:=999999)(disch:=omega) only[f8,eZ,cq,hbS,b1,i1,i2]
 replace hi:=Classical.not_not.1 hi
 obtain⟨i,rfl⟩: ∃i:Nat,ino=(i:Int):=⟨ino.toNat,by omega⟩;have i2: ∀H,f26 (dy (m+1)) (m+1) [.int .i64 ((i:Nat):Int)] H=some (.bool true,H):=fun H=>by
  rw[jX,<-Bool.decide_and,decide_eq_true hi]
 cases hy:wR nm with
 | false=>
  rw[hy]at y1;have ha:cO d nm ((i:Nat):Int) kv=(0,56,kv):=by rw[cO,if_pos hi,if_neg (by rw[hy];decide)]
  rw[ha];refine⟨H1, ?_,(t.prs p1).up (by omega),Prs.stp p1⟩;simp(maxSteps:=999999)(disch:=omega) only[f8,eZ,cq,hbS,b1,i1,i2,x6.ld,y1]
 | true=>
 rw[hy]at y1;have hl:=ZF hy;obtain⟨H2,X10,b2,p2,g2,m2,n2⟩:=box p1.ok (.cells (xQ []) 68 1 false);obtain⟨H3,X11,b3,p3,g3,m3,n3⟩:=box p2.ok (.cells [.bool false] 4 1 false);have N2:=p2.next;have N3:=p3.next
 have x11:Box H3 X11 (.bool false):=⟨_,g3⟩;obtain⟨H4,e4,x114,s4⟩:=x11.st p3.ok (x:= .bool false) rfl;have N4:=s4.next
 have P4:Prs H H4:=((p1.trans p2).trans p3).fresh s4 fun B hB=>by omega
 have x64:Box H4 X6 (S nm):=(x6.mono p1.ok (p2.trans p3) fun x=>x).mono p3.ok s4 (by omega);have g104:H4.h.get X10=some (.cells (xQ []) 68 1 false):=by rw[s4.keep _ (by omega) (by omega)];exact Prs.get p3 p2.ok g2
 have h1: ∀H,f22 (dy (m+1)) (m+1) [S nm] H=some (.int .i64 ((yD nm:Nat):Int),H):=fun H=>ZJ _ _ _ (by omega) (by omega)
 have c2:=(f.chain (h:=yD nm) (by omega) (wS nm)).2.1;obtain⟨H5,e5,I5,s5⟩:=zC3 m hm (t.prs P4) hL hkv f (d:=d) (h:=yD nm) (by omega) (wS nm) (cv:= .func 29 [] [.ptr X10 0, .ptr X11 0, .ptr X6 0]) (step:=cU nm)
  (IR:=AI X10 X11 X6 nm) (W:=fun B=>B=X10\/B=X11) (fun B hB=>by omega) (fun s H H' hk hI P=>⟨Prs.get P hk hI.1,hI.2.1.mono hk P fun x=>x,hI.2.2.mono hk P fun x=>x⟩)
  (fun s e H' hn hk' hI he=>by
   rw[zGn];exact zLF (dy m) m hk' hI (by omega) (c2 e he).1) [] ⟨g104,x114,x64⟩
 obtain⟨r1,r2⟩:=zDW nm (chE d (yD nm) kv) [] rfl;obtain⟨g105,x115,x65⟩:=I5;rw[r1]at x115;have N5:=s5.next
 have P5:Prs H H5:=P4.fresh s5 fun B hB=>by omega
 have t00: ¬(((0:Nat):Int)≠((0:Nat):Int)):=by omega
 have hb10: ∀K,bA (some (.cells (rep 256 [.bool false]) 68 1 false,fun A=> .ptr A 0)) H1 K=K (.ptr X10 0) H2:=fun K=>by rw[zCo];exact b2 _ K
 have hb11:qW (.bool false)=[.bool false]:=rfl;have hfind:(vV d nm kv).isSome=YH nm (chE d (yD nm) kv):=(zIP nm _).symm
 cases hany:YH nm (chE d (yD nm) kv)with
 | true=>
  rw[hany]at x115 hfind;have ha:cO d nm ((i:Nat):Int) kv=(0,6,kv):=by rw[cO,if_pos hi,if_pos hy,if_pos hfind]
  rw[ha];refine⟨H5, ?_,(t.prs P5).up (by omega),Prs.stp P5⟩;simp(maxSteps:=999999)(disch:=omega) only[f8,eZ,cq,hbS,b1,i1,i2,x6.ld,y1,hb10,hb11,b3,e4,x64.ld,h1,e5,t00,x115.ld]
 | false=>
 rw[hany]at x115 hfind;rw[r2 hany,List.nil_append]at g105;have lp:=zCB (dy (m+1)) (m+1) (by omega) (a0:= .ptr At 0) (a1:= .int .i64 ((d:Nat):Int)) (a3:= .int .i64 ((i:Nat):Int)) (a6:= .ptr X6 0) (hh:= .int .i64 ((yD nm:Nat):Int)) g105;obtain⟨q1,q2,q3,q4⟩:=QF (chE d (yD nm) kv);by_cases hp: ¬jR (chE d (yD nm) kv)<256
 ·have hpe:jR (chE d (yD nm) kv)=256:=by omega
  have ha:cO d nm ((i:Nat):Int) kv=(0,3,kv):=by rw[cO,if_pos hi,if_pos hy,if_neg (by rw[hfind];decide),q4 hpe]
  rw[ha];rw[hpe]at lp;refine⟨H5, ?_,(t.prs P5).up (by omega),Prs.stp P5⟩;simp(maxSteps:=999999)(disch:=omega) only[f8,eZ,cq,hbS,b1,i1,i2,x6.ld,y1,hb10,hb11,b3,e4,x64.ld,h1,e5,t00,x115.ld,lp,f8b1]
 ·replace hp:=Classical.not_not.1 hp
  have hpl:=(q3 hp).2;have hh:=wS nm;obtain⟨_,hfe,hfr⟩:=f.free (i:=i) (by omega) hpl (by omega) (by omega) hy;have ha:cO d nm ((i:Nat):Int) kv=(yD nm*256+jR (chE d (yD nm) kv)+1,0,Nd.putP (yG d (yD nm*256+jR (chE d (yD nm) kv)+1)) (vR ⟨yD nm*256+jR (chE d (yD nm) kv)+1,i,nm⟩) kv):=by
   rw[cO,if_pos hi,if_pos hy,if_neg (by rw[hfind];decide),hpl];rfl
  rw[ha];obtain⟨c,hc⟩: ∃c,c=yD nm*256+jR (chE d (yD nm) kv)+1:=⟨_,rfl⟩;rw[<-hc]at hfe hfr⊢;obtain⟨H6,e6,p6⟩:=X3 (dy (m+1)) (m+1) (by omega) s5.ok (d:=d) (c:=c) (by omega) (by omega);obtain⟨H7,e7,p7⟩:=dB (dy (m+1)) (m+1) (by omega) p6.ok i (by omega);have x66:=(x65.mono s5.ok p6 fun x=>x).ld;have x67:=(x65.mono s5.ok (p6.trans p7) fun x=>x).ld;have hval:jU .add (S (dig i 4)) (S nm)=some (S (vR ⟨c,i,nm⟩)):=by rw[vK _ _ (by simp[yY];omega)];rfl
  have hput:QD (yG d c) (vR ⟨c,i,nm⟩)=true:=by
   have:(vR ⟨c,i,nm⟩).length=4+nm.length:=by simp[vR,yY]
   simp[QD,Nd.mayK,uB,this];omega
  have P7:Prs H H7:=(P5.trans p6).trans p7;obtain⟨m',rfl⟩: ∃m',m=m'+1:=⟨m - 1,by omega⟩;obtain⟨H8,e8,t8,s8⟩:=zKx m' (m'+1+1) (by omega) (by omega) (t.prs P7) (by omega) (by omega) (k:=yG d c) (v:=vR ⟨c,i,nm⟩);rw[hput]at e8 t8;simp only[if_true]at e8 t8;refine⟨H8, ?_,t8,(Prs.stp P7).trans s8⟩;have hne:((jR (chE d (yD nm) kv):Nat):Int)≠((256:Nat):Int):=by omega
  obtain⟨hm1,ha1,ha2⟩:=cookA hc;simp(maxSteps:=999999)(disch:=omega) only[f8,eZ,cq,hbS,b1,i1,i2,x6.ld,y1,hb10,hb11,b3,e4,x64.ld,h1,e5,t00,x115.ld,lp,f8b1,hne,hm1,ha1,ha2,x65.ld,e6,x66,zNX,e7,x67,hval,e8]
theorem zB1 {most:Nat} : ∀(l a:Kvs),a.length<=most->(jK (vS most) l (a,false)).2=((a++l).take most,decide (most<a.length+l.length))
 | [],a,h=>by
  rw[List.append_nil,zK h,zV,Nat.add_zero,decide_eq_false (by omega)];rfl
 | x::l,a,h=>by
  by_cases hf:a.length=most
  ·have hs:vS most (a,false) x=(false,(a,true)):=by simp only[vS,show Nat.beq a.length most=true by rw[Nat.beq_eq];exact hf,cond_true]
   simp only[jK,hs,cond_false];rw[List.take_append_of_le_length (by omega),zK (by omega),decide_eq_true (by simp;omega)]
  ·have hne:Nat.beq a.length most=false:=by
    cases hb:Nat.beq a.length most with
    | false=>rfl
    | true=>exact absurd (Nat.eq_of_beq_eq_true hb) hf
   have hs:vS most (a,false) x=(true,(a++[x],false)):=by simp only[vS,hne,cond_false]
   simp only[jK,hs,cond_true];rw[zB1 l (a++[x]) (by simp;omega),List.append_assoc,List.singleton_append];simp only[zI,zF,zV];rw[show a.length+(0+1)+l.length=a.length+(l.length+1)by omega]
theorem VM (m:Nat)(hm:700000000<=m){H:AH}{At M L:Nat}{kv:Kvs}(t:wC H At M L kv)(hL:L<=1000000)(hkv:kv.length<=1000000000)(fr to:Str){most:Nat}(hmo:0<=most):
  ∃H' v,f18 (dy (m+1)) (m+1) [.ptr At 0,S fr,S to, .int .i64 ((most:Nat):Int)] H=some (.tuple [v, .bool (decide (most< (jF fr to kv).length)), .int .i64 ((0:Nat):Int)],H')/\Prs H H'/\yN 2 85 H' v ((jF fr to kv).take most).length (((jF fr to kv).take most).flatMap prV)/\ ∀B,Blk v B->H.next<=B:=by
 obtain⟨d,c,_,root,es,q,last,rfl,hc,ti,h2,h3,h4,h5⟩:=t;have hold:=ti.hold;have lA:=ti.ok.lt ti.gT;have lM:=ti.ok.lt ti.gM;have hg:GI0 H.next At M root q H (fun _=>False):=⟨fun _ x=>x,lA,lM,d,c,es,last,ti,hold⟩
 have main: ∀L0,Vis (Qf q []) root fr to L0->L0.length<=8192+q.length->(jK (wF fr to (vS most)) L0 ([],false)).2=((jF fr to kv).take most,decide (most< (jF fr to kv).length))-> ∃H' v,f18 (dy (m+1)) (m+1) [.ptr At 0,S fr,S to, .int .i64 ((most:Nat):Int)] H=some (.tuple [v, .bool (decide (most< (jF fr to kv).length)), .int .i64 ((0:Nat):Int)],H')/\Prs H H'/\yN 2 85 H' v ((jF fr to kv).take most).length (((jF fr to kv).take most).flatMap prV)/\ ∀B,Blk v B->H.next<=B:=by
  intro L0 hv hl hr;obtain⟨H',Wg',v,e,_,s,_,g,f⟩:=VN (zE6 H.next At M root q) m hm hg (Nat.le_refl _) hmo hv hl (by omega)
  rw[hr]at e g;exact⟨H',v,e,s,g,f⟩
 rcases h5 with⟨rfl,rfl⟩ | ⟨s,h,nd,t,S0,rfl,hs,rn,wr,nd0,rfl⟩
 ·exact main [] (.inl ⟨.inl rfl,rfl⟩) (by simp) (by
   show(([],false):Kvs×Bool)=(List.take most [],decide (most<0));rw[List.take_nil,decide_eq_false (by omega)])
 ·by_cases hto:to≠[]/\ltS fr to=false
  ·refine main [] (.inl ⟨.inr hto,rfl⟩) (by simp) ?_;rw[Z1 hto.1 hto.2];show(([],false):Kvs×Bool)=(List.take most [],decide (most<0));rw[List.take_nil,decide_eq_false (by omega)]
  ·have hto':to=[]\/ltS fr to=true:=by
    by_cases h0:to=[]
    ·exact .inl h0
    ·right
     cases hb:ltS fr to with
     | true=>rfl
     | false=>exact absurd ⟨h0,hb⟩ hto
   obtain⟨_,_,hvl⟩:=KP (Q:=Qf q []) (fr:=fr) (to:=to) (p:=pp s) rn wr;obtain⟨_,hql⟩:=JE hs rn wr nd0;refine main (wQ (Qf q []) fr to h (pp s) nd) (.inr ⟨by simp[pp],hto',h,nd,by have:=wr.low hkv;omega, ?_,zDe rn wr,rfl⟩) (by omega) ?_
   ·rw[Z9];simpa[qV]using hs
   ·rw[zAK rn wr,zB1 _ [] (by simp),List.nil_append,zV,Nat.zero_add];rfl
def etV (e:En):List AV:=[S e.n, .int .i64 ((e.i:Nat):Int), .int .i64 ((e.c:Nat):Int)]
def Ens (H:AH)(v:AV)(l:List En):Prop:=yN 3 46 H v l.length (l.flatMap etV)
theorem zG8 (m:Nat)(hm:700000000<=m){H:AH}{At M L d b most:Nat}{kv:Kvs}{q:Str}{bz:Int}(t:wC H At M L kv)(hL:L<=1000000)(hkv:kv.length<=100000000)(f:KM d kv)(hd:1<=d)(hd2:d<=2147483647)(hb0:0<=bz)(hbm:b=min bz.toNat 262144)(hmo:0<=most)
  (hbe: ∀ {H:AH},H.ok-> ∃H',f39 (dy (m+1)) (m+1) [S (vZ d)] H=some (S q,H')/\Prs H H') (hbt:jF (yG d (b+1)) q kv=(liE d b kv).map (xF d)):
  ∃H' v,f14 (dy (m+1)) (m+1) [.ptr At 0, .int .i64 ((d:Nat):Int), .int .i64 bz, .int .i64 ((most:Nat):Int)] H=some (.tuple [v, .bool (!decide (most< (liE d b kv).length)), .int .i64 ((0:Nat):Int)],H')/\Prs H H'/\Ens H' v ((liE d b kv).take most)/\ ∀B,Blk v B->H.next<=B:=by
 have hb:b<=262144:=by omega
 have hk:H.ok:=by obtain⟨_,_,_,_,_,_,_,_,_,ti,_⟩:=t;exact ti.ok
 obtain⟨c1,c2,c3⟩:=f.list (b:=b) (by omega) hb;obtain⟨H1,e1,p1⟩:=X3 (dy (m+1)) (m+1) (by omega) hk (d:=d) (c:=b+1) (by omega) (by omega);obtain⟨H2,e2,p2⟩:=dB (dy (m+1)) (m+1) (by omega) p1.ok d (by omega);obtain⟨H3,e3,p3⟩:=hbe p2.ok;have P3:Prs H H3:=(p1.trans p2).trans p3;obtain⟨H4,v,e4,p4,gv,fv⟩:=VM m hm (t.prs P3) hL (by omega) (yG d (b+1)) q (most:=most) hmo;rw[hbt,qA]at e4;rw[hbt,<-List.map_take]at gv;obtain⟨l,hl⟩: ∃l,l=(liE d b kv).take most:=⟨_,rfl⟩;have hlf: ∀e∈l,e.fine:=fun e he=>by rw[hl]at he;exact(c2 e (List.mem_of_mem_take he)).1
 have hll:l.length<=100000000:=by
  have h1:=List.length_filter_le (inP (yG d (b+1)) (vZ (d+1))) kv;rw[c1,qA]at h1;rw[hl,zG];omega
 rw[<-hl]at gv⊢;have hv:XU H4 v (l.map (xF d)):=gv.row;have P4:Prs H H4:=P3.trans p4;have N3:=P3.next;have N4:=p4.next
 have lp:=kI (b:=zFI (dy (m+1)) (m+1)) l.length (fun i us H'=> ∃w,us=[.bool (decide (most< (liE d b kv).length)),w,v, .int .i64 ((l.length:Nat):Int), .int .i64 ((i:Nat):Int)]/\Prs H4 H'/\Ens H' w (l.take i)/\(∀B,Blk w B->H4.next<=B)) (fun i us H' hi ⟨w,hus,P,hw,fw⟩=>by
  subst hus;have hil:i< (l.map (xF d)).length:=by simpa using hi
  have hv':XU H' v (l.map (xF d)):=Rw.stp hv P fun _ _ x=>x
  obtain⟨A',o,i1,i2,i3,i4⟩:=hv'.at hil;have hg:(l.map (xF d))[i]=xF d l[i]:=by simp
  rw[hg]at i2;have N:=P.next
  have hfe:=hlf _ (zR hi);obtain⟨H5,A8,b5,p5,g5,m5,n5⟩:=box P.ok (.cells [S [],S []] 85 1 false);obtain⟨H6,e6,g6,s6,n6⟩:=qX p5.ok g5 (l':=[S (yG d l[i].c),S (vR l[i])]) rfl rfl;have e6':stN 2 (.ptr A8 0) (.agg [S (yG d l[i].c),S (vR l[i])]) H5=some (qN,H6):=e6;have P6:Prs H' H6:=p5.fresh s6 fun B hB=>by omega
  have N5:=p5.next;have N6:=s6.next
  obtain⟨H7,e7,p7⟩:=zBV (dy (m+1)) (m+1) (by omega) P6.ok (d:=d) hfe;obtain⟨H8,A9,b8,p8,g8,m8,n8⟩:=box p7.ok (.cells sd0 71 1 false);obtain⟨H9,e9,g9,s9,n9⟩:=qX p8.ok g8 (l':=sdV d l[i]) rfl rfl;have e9':stN 5 (.ptr A9 0) (.agg (sdV d l[i])) H8=some (qN,H9):=e9;have N7:=p7.next;have N8:=p8.next;have N9:=s9.next
  have P9:Prs H' H9:=((P6.trans p7).trans p8).fresh s9 fun B hB=>by omega
  obtain⟨H10,A10,b10,p10,g10,m10,n10⟩:=box P9.ok (.cells (etV l[i]) 46 3 false);have hsrc:srcOf 3 (.slice A10 0 1 2) H10=some (1,etV l[i]):=by simp only[srcOf,g10];rfl
  obtain⟨w',H11,e11,gw11,s11,f11⟩:=yN.app (bytes:=32) (m:=1) p10.ok (by decide) (yN.mono hw (P9.trans p10) fun _ _ x=>x) hsrc rfl rfl (by simp;omega) (by decide);have N10:=p10.next
  have P11:Prs H4 H11:=(P.trans (P9.trans p10)).fresh s11 fw;have fl:(l.take (i+1)).flatMap etV=(l.take i).flatMap etV++etV l[i]:=by rw[zJ hi,qD];simp
  refine⟨_,H11, ?_,w',rfl,P11, ?_,fun B hB=> ?_⟩
  ·have hiI:((i:Nat):Int)< ((l.length:Nat):Int):=by omega
   have hi1:((i:Nat):Int)+((1:Nat):Int)=((i+1:Nat):Int):=by omega
   have hS:(AV.str 0 0)=S []:=rfl;have hbx:bxV 85 (.agg [S [],S []])=some (.cells [S [],S []] 85 1 false,fun A=> .ptr A 0):=rfl;have hbs:bxV 71 (.agg [S [], .int .i64 ((0:Nat):Int), .int .i64 ((0:Nat):Int),S [], .bool false])=some (.cells sd0 71 1 false,fun A=> .ptr A 0):=rfl;have i2':ldN 2 (.ptr A' o) H'=some (.agg [S (yG d l[i].c),S (vR l[i])]):=i2;have r6:ldN 2 (.ptr A8 0) H6=some (.agg [S (yG d l[i].c),S (vR l[i])]):=by rw[qR g6];rfl
   have r94:ld1 (.ptr A9 4) H9=some (.bool true):=by rw[qM g9];rfl
   have r93:ldN 3 (.ptr A9 0) H9=some (.agg (etV l[i])):=by rw[qR g9];rfl
   have bl1:wK 46 3 1 [S [], .int .i64 ((0:Nat):Int), .int .i64 ((0:Nat):Int)] [(0, .agg (etV l[i]))]=some (.cells (etV l[i]) 46 3 false,fun A=> .slice A 0 1 2):=rfl;simp(maxSteps:=999999)(disch:=omega) only[zFI,zNM,eZ,hiI,i1,i2',hS,hbx,b5,e6',r6,e7,qL,nth,hbs,b8,e9',r94,r93,bl1,b10,e11,hi1]
  ·show yN 3 _ _ w' _ _;rw[fl];have e:(l.take (i+1)).length=(l.take i).length+1:=by simp;omega
   rw[e];exact gw11
  ·rcases f11 B hB with e | e
   ·exact fw B e
   ·omega) (m+1) _ H4 ⟨.nilSlice,rfl,Stp.refl p4.ok, .inl (Own.nil ..),fun B hB=>(Blk.nil.1 hB).elim⟩ (by omega)
 obtain⟨q,us,H5,e5,w,rfl,P5,hw,fw⟩:=lp;rw[zY]at hw;refine⟨H5,w, ?_,P4.trans P5,hw,fun B hB=>by have:=fw B hB;omega⟩;have last:qT (q+1) (zFI (dy (m+1)) (m+1)) [.bool (decide (most< (liE d b kv).length)),w,v, .int .i64 ((l.length:Nat):Int), .int .i64 ((l.length:Nat):Int)] H5=some (.exit 0 [.bool (decide (most< (liE d b kv).length)),w],H5):=qU (by simp only[zFI,eZ,zS]);have i1: ∀H,f26 (dy (m+1)) (m+1) [.int .i64 ((d:Nat):Int)] H=some (.bool true,H):=fun H=>by
  rw[jX,decide_eq_true (by omega),decide_eq_true (by omega)];rfl
 have t1: ¬bz< ((0:Nat):Int):=by omega
 have t2: ¬((most:Nat):Int)< ((0:Nat):Int):=by omega
 have hmn:mn2 (.int .i64 bz) (.int .i64 ((262144:Nat):Int))=some (.int .i64 ((b:Nat):Int)):=by
  by_cases hlt:((262144:Nat):Int)<bz
  ·have hb':ilt ((262144:Nat):Int) bz=true:=by rw[xA];exact decide_eq_true hlt
   have hbb:b=262144:=by omega
   simp only[mn2,hb',cond_true,hbb]
  ·have hb':ilt ((262144:Nat):Int) bz=false:=by rw[xA];exact decide_eq_false hlt
   have hbb:bz=((b:Nat):Int):=by omega
   rw[hbb]at hb'⊢;simp only[mn2,hb',cond_false]
 have hb1:((b:Nat):Int)+((1:Nat):Int)=((b+1:Nat):Int):=by omega
 have h101:(AV.str 1 101)=S [101]:=rfl;have h1:jU .add (S [101]) (S (dig d 4))=some (S (vZ d)):=by rw[vK _ _ (by simp[yY])];rfl
 have t00: ¬(((0:Nat):Int)≠((0:Nat):Int)):=by omega
 have hln:lnSl v=some (.int .i64 ((l.length:Nat):Int)):=by rw[hv.lnSl,qA]
 simp(maxSteps:=999999)(disch:=omega) only[f14,eZ,cq,i1,t1,t2,hmn,hb1,e1,e2,h101,h1,e3,e4,qL,nth,t00,hln,e5,last,zNN]
theorem zG7 (D:Dyn)(n:Nat){H:AH}(hk:H.ok): ∃H' A,f24 D n [.int .i64 ((64:Nat):Int)] H=some (.tuple [.ptr A 0, .int .i64 ((0:Nat):Int)],H')/\Prs H H':=by
 obtain⟨H1,A1,b1,p1,g1,m1,n1⟩:=box hk (.map [6] []);obtain⟨H2,A2,b2,p2,g2,m2,n2⟩:=box p1.ok (.map [6] []);obtain⟨H3,A3,b3,p3,g3,m3,n3⟩:=box p2.ok (.cells [.int .i64 ((64:Nat):Int), .map A1, .nilSlice, .map A2, .int .i64 ((0:Nat):Int), .nilSlice, .bool false] 130 1 false);refine⟨H3,A3, ?_,(p1.trans p2).trans p3⟩;have a1: ¬((64:Nat):Int)< ((64:Nat):Int):=by omega
 have a2: ¬((8192:Nat):Int)< ((64:Nat):Int):=by omega
 have bs:jT [(0,1),(1,1),(2,1),(3,1),(4,1),(5,1),(6,1)] [.int .i64 ((0:Nat):Int), .nilMap, .nilSlice, .nilMap, .int .i64 ((0:Nat):Int), .nilSlice, .bool false] [(0, .int .i64 ((64:Nat):Int)),(1, .map A1),(3, .map A2)]=some (.agg [.int .i64 ((64:Nat):Int), .map A1, .nilSlice, .map A2, .int .i64 ((0:Nat):Int), .nilSlice, .bool false]):=rfl;simp(maxSteps:=999999)(disch:=omega) only[f24,f48,eZ,a1,a2,mkM,b1,b2,bs,b3]
theorem zIf (D:Dyn)(n:Nat)(hn:100<=n){H:AH}(hk:H.ok): ∃H' At M,f7 D n [] H=some (.ptr At 0,H')/\Prs H H'/\H.next<=At/\H.next<=M/\wC H' At M 0 []:=by
 obtain⟨H1,A1,e1,p1⟩:=zG7 D n hk;obtain⟨H2,At,M,e2,p2,m2,m2',ti⟩:=zKE D n hn p1.ok A1 0 (c:= .nilPtr) rfl;have N1:=p1.next
 refine⟨H2,At,M, ?_,p1.trans p2,by omega,by omega,ti⟩;have t00: ¬(((0:Nat):Int)≠((0:Nat):Int)):=by omega
 have bz:jT [(0,1),(1,1),(2,1)] [.int .i64 ((0:Nat):Int), .int .i64 ((0:Nat):Int), .int .u64 ((0:Nat):Int)] []=some (.agg (y5 pZ)):=rfl;simp(maxSteps:=999999)(disch:=omega) only[f7,eZ,e1,qL,nth,bz,e2,t00]
theorem XK {d:Nat}{nm:Str}{i:Nat}{kv:Kvs}(f:KM d kv)(hd:d<2147483648)(h:(cO d nm ((i:Nat):Int) kv).2.1=0): ∃e:En,e.fine/\e.i=i/\e.n=nm/\wR nm=true/\vV d nm kv=none/\(∀q∈kv,q.1≠yG d e.c)/\cO d nm ((i:Nat):Int) kv=(e.c,0,Nd.putP (yG d e.c) (vR e) kv):=by
 by_cases h1:1<=((i:Nat):Int)/\((i:Nat):Int)<=2147483647
 ·by_cases h2:wR nm=true
  ·by_cases h3:(vV d nm kv).isSome=true
   ·rw[cO,if_pos h1,if_pos h2,if_pos h3]at h;cases h
   ·cases hp:hZ (chE d (yD nm) kv)with
    | none=>rw[cO,if_pos h1,if_pos h2,if_neg h3,hp]at h;cases h
    | some p=>
     obtain⟨g1,g2,g3⟩:=f.free (i:=i) hd hp (by omega) (by omega) h2;refine⟨_,g2,rfl,rfl,h2, ?_,g3, ?_⟩
     ·cases hf:vV d nm kv with
      | none=>rfl
      | some e=>rw[hf]at h3;exact absurd rfl h3
     ·rw[cO,if_pos h1,if_pos h2,if_neg h3,hp];rfl
  ·rw[cO,if_pos h1,if_neg h2]at h;cases h
 ·rw[cO,if_neg h1]at h;cases h
theorem zBC {α:Type}(f:α->List AV)(k:Nat)(hf: ∀a,(f a).length=k): ∀(l:List α) (i:Nat) (h:i<l.length),((l.flatMap f).drop (i*k)).take k=f l[i]
 | p::l,0,_=>by
  rw[Nat.zero_mul,List.drop_zero,zP,List.take_left' (hf p)];rfl
 | p::l,i+1,h=>by
  rw[zP,show(i+1)*k=k+i*k by rw[Nat.succ_mul,Nat.add_comm],<-List.drop_drop,List.drop_left' (hf p)];exact zBC f k hf l i (by simpa using h)
def EnR (H:AH)(v:AV)(l:List En):Prop:=Rw 3 H v l.length (l.flatMap etV)
theorem EnR.at {H:AH}{v:AV}{l:List En}(h:EnR H v l){i:Nat}(hi:i<l.length): ∃A o,(∀κ (z:Int),z=(i:Int)->jB 3 v (.int κ z)=some (.ptr A o))/\Eng.ldN 3 (.ptr A o) H=some (.agg (etV l[i])):=by
 obtain⟨A,o,c,e,sz,g,h1,h2,h3,h4,h5⟩:=Rw.at h hi;rw[zBC etV 3 (fun _=>rfl) l i hi]at h5;exact⟨A,o,h1,by rw[WK h2 h4,h5]⟩
theorem zNP (e:En):eqA [2,6,6] (.agg (etV e)) (.agg (etV e))=some true:=by
 have h1:=fun x y=>aK .i64 x y
 have h2:dZ 2 (S e.n) (S e.n)=some true:=by simp[dZ,S]
 simp only[fF]at h1;simp only[eqA,etV,cL,Nat.succ_eq_add_one,Nat.beq_refl,zF,zV,Bool.and_self,cond_true,wT,h1,h2,decide_true]
end Go.Eng.Sh
end
section
namespace Go.Di
open Go.Nd (Str Kvs putP delP lookP Srt mayK)
open Go.Eng (ltS qY y8 xT kU wY)
open Go.Bt (inP y6 uA)
open Go.Dr
open Go.Eng.Sh (cO XK aG YX)
theorem dJ {d d' a b:Nat}(hd:d<4294967296)(hd':d'<4294967296)(ha:a<4294967296)(hb:b<4294967296)(h:yG d a=yG d' b):d=d'/\a=b:=by
 obtain⟨h1,h2⟩:=List.append_inj h (by rw[kS,kS]);simp only[vZ,List.cons.injEq,true_and]at h1;have e1:=congrArg num h1;have e2:=congrArg num h2;rw[uY (by omega),uY (by omega)]at e1 e2;exact⟨e1,e2⟩
theorem zMy {d d' c:Nat}{v:Str}(hd:d<2147483648)(hd':d'<2147483648)(h:d≠d'):inP (yG d 1) (vZ (d+1)) (yG d' c,v)=false:=by
 have hne:(vZ (d+1)).isEmpty=false:=rfl;simp only[inP,y6,hne,Bool.false_or];rcases Nat.lt_or_gt_of_ne h with h | h
 ·rw[zHp c (show d+1<=d' by omega) (by omega),Bool.and_false]
 ·have h1:=WN c h (by omega);have h2:ltS (vZ d) (yG d 1)=true:=by
   have:=zAd (vZ d) [] (dig 1 4);rw[List.append_nil]at this;rw[yG,this];rfl
  rw[y8 h1 h2];rfl
theorem zIe {d:Nat}{a b:En}(ha:a.fine)(hb:b.fine)(h:xF d a=xF d b):a=b:=by
 have:=congrArg zIq h;rwa[Y9 ha,Y9 hb]at this
theorem zMc {d:Nat} : ∀ {l:List En},(∀e∈l,e.fine)->Srt (l.map (xF d))->l.Pairwise fun a b=>a.c<b.c
 | [],_,_=> .nil
 | e::l,hf,hs=>by
  rw[List.map_cons]at hs;refine List.pairwise_cons.2 ⟨fun x hx=> ?_,zMc (fun y hy=>hf y (zA _ hy)) hs.2⟩;have h1:=hs.1 (xF d x) (List.mem_map_of_mem hx);have h2:=(hf e (zB ..)).2.1;have h3:=(hf x (zA _ hx)).2.1;have h4:ltS (yG d e.c) (yG d x.c)=true:=h1;rw[aF d (by omega) (by omega)]at h4;exact of_decide_eq_true h4
theorem KM.sorted {d b:Nat}{kv:Kvs}(f:KM d kv)(hd:d<2147483648)(hb:b<=262144):(liE d b kv).Pairwise fun a b=>a.c<b.c:=by
 obtain⟨h1,h2,_⟩:=f.list hd hb;refine zMc (d:=d) (fun e he=>(h2 e he).1) ?_;rw[<-h1];exact Bt.srt_sub List.filter_sublist f.1
theorem JB: ∀ {a b:List En},(a.Pairwise fun x y=>x.c<y.c)->(b.Pairwise fun x y=>x.c<y.c)->(∀e,e∈a↔e∈b)->a=b
 | [],[],_,_,_=>rfl
 | [],y::b,_,_,h=>by have:=(h y).2 (zB ..);cases this
 | x::a,[],_,_,h=>by have:=(h x).1 (zB ..);cases this
 | x::a,y::b,ha,hb,h=>by
  rw[List.pairwise_cons]at ha hb;have hxy:x=y:=by
   rcases List.mem_cons.1 ((h x).1 (zB ..))with e | e
   ·exact e
   ·rcases List.mem_cons.1 ((h y).2 (zB ..))with e' | e'
    ·exact e'.symm
    ·have:=hb.1 x e;have:=ha.1 y e';omega
  subst hxy;rw[JB ha.2 hb.2 fun e=> ?_];constructor
  ·intro he;rcases List.mem_cons.1 ((h e).1 (zA _ he))with rfl | e'
   ·have:=ha.1 e he;omega
   ·exact e'
  ·intro he;rcases List.mem_cons.1 ((h e).2 (zA _ he))with rfl | e'
   ·have:=hb.1 e he;omega
   ·exact e'
end Go.Di
namespace Go.Eng
open Go.Nd (Str)
open Go.Di
end Go.Eng
namespace Go.Eng.Sh
open Go.Nd (Ptr yH qQ Kvs Srt)
open Go.Bt Go.Dr Go.Di
structure Ac where
 k:Int
 d:Int
 i:Int
 n:Int
 s:Str
def acV (a:Ac):List AV:=[.int .u8 a.k, .int .i64 a.d, .int .i64 a.i, .int .i64 a.n,S a.s]
def AcR (H:AH)(v:AV)(l:List Ac):Prop:=Rw 5 H v l.length (l.flatMap acV)
theorem AcR.at {H:AH}{v:AV}{l:List Ac}(h:AcR H v l){i:Nat}(hi:i<l.length): ∃A o,(∀κ (z:Int),z=(i:Int)->jB 5 v (.int κ z)=some (.ptr A o))/\Eng.ldN 5 (.ptr A o) H=some (.agg (acV l[i]))/\Eng.ld1 (.ptr A (o+4)) H=some (S l[i].s):=by
 obtain⟨A,o,c,e,sz,g,h1,h2,h3,h4,h5⟩:=Rw.at h hi;rw[zBC acV 5 (fun _=>rfl) l i hi]at h5;have g4:c[o+4]? =some (S l[i].s):=by
  have:=congrArg (fun x=>x[4]?) h5;simpa[acV]using this
 exact⟨A,o,h1,by rw[WK h2 h4,h5],QU h2 g4⟩
theorem zIk (D:Dyn)(n:Nat)(hn:200<=n){H:AH}{v:AV}{l:List Ac}(hv:AcR H v l): ∃b,f5 D n [v] H=some (.bool b,H)/\(b=false->l.length<=100/\ ∀a∈l,a.s.length<=1000):=by
 have hln:lnSl v=some (.int .i64 ((l.length:Nat):Int)):=hv.lnSl;by_cases h100:100<l.length
 ·have hI:((100:Nat):Int)< ((l.length:Nat):Int):=by omega
  refine⟨true, ?_,fun h=>by cases h⟩;simp(maxSteps:=999999)(disch:=omega) only[f5,eZ,hln,hI]
 ·have hI: ¬((100:Nat):Int)< ((l.length:Nat):Int):=by omega
  have lp: ∀(rr i kf:Nat),i+rr=l.length->rr<kf-> ∃b,jb 0 (qT kf (zLe D n) [v, .int .i64 ((i:Nat):Int)] H) (f5b1 D n)=some (.ret (.bool b),H)/\(b=false-> ∀a∈l.drop i,a.s.length<=1000):=by
   intro rr
   induction rr with
   | zero=>
    intro i kf he hk;obtain⟨k,rfl⟩: ∃k,kf=k+1:=⟨kf - 1,by omega⟩;have hge: ¬((i:Nat):Int)< ((l.length:Nat):Int):=by omega
    refine⟨false, ?_,fun _ a ha=>by rw[zQ (by omega)]at ha;cases ha⟩;rw[qU (i:=0) (vs':=[]) (H':=H) (by simp(maxSteps:=999999)(disch:=omega) only[zLe,eZ,hln,hge])];simp(maxSteps:=999999)(disch:=omega) only[jb,Nat.beq_refl,cond_true,f5b1,eZ]
   | succ rr ih=>
    intro i kf he hk;obtain⟨k,rfl⟩: ∃k,kf=k+1:=⟨kf - 1,by omega⟩;have hi:i<l.length:=by omega
    have hiI:((i:Nat):Int)< ((l.length:Nat):Int):=by omega
    have hi1:((i:Nat):Int)+((1:Nat):Int)=((i+1:Nat):Int):=by omega
    obtain⟨A,o,i1,_,i4⟩:=hv.at hi;by_cases hb:1000<l[i].s.length
    ·have hbI:((1000:Nat):Int)< ((l[i].s.length:Nat):Int):=by omega
     refine⟨true, ?_,fun h=>by cases h⟩;have body:zLe D n [v, .int .i64 ((i:Nat):Int)] H=some (.ret (.bool true),H):=by
      simp(maxSteps:=999999)(disch:=omega) only[zLe,eZ,hln,hiI,i1,i4,yT,hbI]
     rw[vE body];rfl
    ·have hbI: ¬((1000:Nat):Int)< ((l[i].s.length:Nat):Int):=by omega
     obtain⟨b,e,h⟩:=ih (i+1) k (by omega) (by omega);refine⟨b, ?_,fun hb' a ha=> ?_⟩
     ·have body:zLe D n [v, .int .i64 ((i:Nat):Int)] H=some (.norm [v, .int .i64 ((i+1:Nat):Int)],H):=by
       simp(maxSteps:=999999)(disch:=omega) only[zLe,eZ,hln,hiI,i1,i4,yT,hbI,hi1]
      rw[xU body,e]
     ·rw[zN hi]at ha;rcases List.mem_cons.1 ha with rfl | ha
      ·omega
      ·exact h hb' a ha
  obtain⟨b,e,h⟩:=lp l.length 0 n (by omega) (by omega);refine⟨b, ?_,fun hb=>⟨by omega,h hb⟩⟩;simp(maxSteps:=999999)(disch:=omega) only[f5,eZ,hln,hI,e]
def gC (e:En):AV:= .int .i64 ((e.c:Nat):Int)
end Go.Eng.Sh
end
section
namespace Go.Di
open Go.Nd (Str Kvs delP)
theorem zJQ (k:Str): ∀l:Kvs,(delP k l).length<=l.length
 | []=>Nat.le_refl _
 | (a,b)::l=>by
  have ih:=zJQ k l;simp only[delP];split
  ·simp
  ·simp only[zF];omega
end Go.Di
namespace Go.Eng.Sh
open Go.Nd (Ptr yH qQ Kvs Srt)
open Go.Bt Go.Dr Go.Di
def Bad (x0:AV)(z:Int)(c:Nat):Prop:=(x0= .nilPtr/\c=2)\/(∃A,x0= .ptr A 0/\ ¬(1<=z/\z<=2147483647)/\c=1)
theorem fE (D:Dyn)(n:Nat){H:AH}{x:Int}(h: ¬(1<=x/\x<=2147483647)):f26 D n [.int .i64 x] H=some (.bool false,H):=by
 rw[jX];by_cases h1:1<=x
 ·rw[decide_eq_false (p:=x<=2147483647) (by omega),Bool.and_false]
 ·rw[decide_eq_false h1,Bool.false_and]
theorem UB (D:Dyn)(n:Nat){H:AH}{x:Int}(h:1<=x/\x<=2147483647):f26 D n [.int .i64 x] H=some (.bool true,H):=by
 rw[jX,decide_eq_true h.1,decide_eq_true h.2];rfl
theorem cqN:vI .eql (eqP .nilPtr .nilPtr)=some (.bool true):=rfl
theorem zB0 (D:Dyn)(n:Nat){H:AH}(hk:H.ok){x0:AV}{z:Int}{c:Nat}(h:Bad x0 z c)(nm:Str):
  ∃H',f37 D n [x0, .int .i64 z,S nm] H=some (.tuple [.agg sd0, .int .i64 ((c:Nat):Int)],H')/\Prs H H':=by
 obtain⟨H1,X5,b1,p1,g1,m1,n1⟩:=box hk (.cells [S nm] 9 1 false);obtain⟨H2,X6,b2,p2,g2,m2,n2⟩:=box p1.ok (.cells sd0 71 1 false);have N1:=p1.next;have N2:=p2.next
 have P2:=p1.trans p2;have hbS:qW (S nm)=[S nm]:=rfl;have hS:(AV.str 0 0)=S []:=rfl;have hbs:bxV 71 (.agg [S [], .int .i64 ((0:Nat):Int), .int .i64 ((0:Nat):Int),S [], .bool false])=some (.cells sd0 71 1 false,fun A=> .ptr A 0):=rfl;have bs:jT [(0,3),(3,1),(4,1)] [S [], .int .i64 ((0:Nat):Int), .int .i64 ((0:Nat):Int),S [], .bool false] []=some (.agg sd0):=rfl;obtain⟨H3,e3,g3,s3,n3⟩:=qX p2.ok g2 (l':=sd0) rfl rfl;have e3':stN 5 (.ptr X6 0) (.agg sd0) H2=some (qN,H3):=e3;have r3:ldN 5 (.ptr X6 0) H3=some (.agg sd0):=zIR g3 rfl;refine⟨H3, ?_,P2.fresh s3 fun B hB=>by omega⟩;rcases h with⟨rfl,rfl⟩ | ⟨A,rfl,hz,rfl⟩
 ·simp(maxSteps:=999999)(disch:=omega) only[f37,eZ,cqN,hbS,b1,hS,hbs,b2,bs,e3',r3]
 ·have i1: ∀H,f26 D n [.int .i64 z] H=some (.bool false,H):=fun H=>fE D n hz
  simp(maxSteps:=999999)(disch:=omega) only[f37,eZ,cq,hbS,b1,hS,hbs,b2,i1,bs,e3',r3]
theorem zHT (D:Dyn)(n:Nat){H:AH}(hk:H.ok){x0:AV}{z:Int}{c:Nat}(h:Bad x0 z c)(nm:Str):
  ∃H',f12 D n [x0, .int .i64 z,S nm] H=some (.tuple [.int .i64 ((0:Nat):Int), .int .i64 ((0:Nat):Int), .int .i64 ((c:Nat):Int)],H')/\Prs H H':=by
 obtain⟨H1,e1,p1⟩:=zB0 D n hk h nm;obtain⟨H2,A9,b2,p2,g2,m2,n2⟩:=box p1.ok (.cells sd0 71 1 false);have N1:=p1.next
 have hS:(AV.str 0 0)=S []:=rfl;have hbs:bxV 71 (.agg [S [], .int .i64 ((0:Nat):Int), .int .i64 ((0:Nat):Int),S [], .bool false])=some (.cells sd0 71 1 false,fun A=> .ptr A 0):=rfl;obtain⟨H3,e3,g3,s3,n3⟩:=qX p2.ok g2 (l':=sd0) rfl rfl;have e3':stN 5 (.ptr A9 0) (.agg sd0) H2=some (qN,H3):=e3;have r1:ld1 (.ptr A9 1) H3=some (.int .i64 ((0:Nat):Int)):=by rw[qM g3];rfl
 have r2:ld1 (.ptr A9 2) H3=some (.int .i64 ((0:Nat):Int)):=by rw[qM g3];rfl
 refine⟨H3, ?_,(p1.trans p2).fresh s3 fun B hB=>by omega⟩;simp(maxSteps:=999999)(disch:=omega) only[f12,eZ,e1,qL,nth,hS,hbs,b2,e3',r1,r2]
theorem zIh (D:Dyn)(n:Nat){H:AH}(hk:H.ok){x0:AV}{z:Int}{c:Nat}(h:Bad x0 z c)(nm:Str):
  ∃H',f10 D n [x0, .int .i64 z,S nm] H=some (.tuple [.int .i64 ((0:Nat):Int), .int .i64 ((c:Nat):Int)],H')/\Prs H H':=by
 obtain⟨H1,e1,p1⟩:=zB0 D n hk h nm;obtain⟨H2,A9,b2,p2,g2,m2,n2⟩:=box p1.ok (.cells sd0 71 1 false);have N1:=p1.next
 have hS:(AV.str 0 0)=S []:=rfl;have hbs:bxV 71 (.agg [S [], .int .i64 ((0:Nat):Int), .int .i64 ((0:Nat):Int),S [], .bool false])=some (.cells sd0 71 1 false,fun A=> .ptr A 0):=rfl;obtain⟨H3,e3,g3,s3,n3⟩:=qX p2.ok g2 (l':=sd0) rfl rfl;have e3':stN 5 (.ptr A9 0) (.agg sd0) H2=some (qN,H3):=e3;have hc:((c:Nat):Int)≠((0:Nat):Int):=by rcases h with⟨_,rfl⟩ | ⟨_,_,_,rfl⟩<;>omega
 refine⟨H3, ?_,(p1.trans p2).fresh s3 fun B hB=>by omega⟩;simp(maxSteps:=999999)(disch:=omega) only[f10,eZ,e1,qL,nth,hS,hbs,b2,e3',hc,ne_eq,not_false_eq_true]
theorem zLE (D:Dyn)(n:Nat){H:AH}(hk:H.ok){x0:AV}{z:Int}{c:Nat}(h:Bad x0 z c)(nm:Str)(ino:Int):
  ∃H',f8 D n [x0, .int .i64 z,S nm, .int .i64 ino] H=some (.tuple [.int .i64 ((0:Nat):Int), .int .i64 ((c:Nat):Int)],H')/\Prs H H':=by
 obtain⟨H1,X6,b1,p1,g1,m1,n1⟩:=box hk (.cells [S nm] 9 1 false);have hbS:qW (S nm)=[S nm]:=rfl;refine⟨H1, ?_,p1⟩;rcases h with⟨rfl,rfl⟩ | ⟨A,rfl,hz,rfl⟩
 ·simp(maxSteps:=999999)(disch:=omega) only[f8,eZ,cqN,hbS,b1]
 ·have i1: ∀H,f26 D n [.int .i64 z] H=some (.bool false,H):=fun H=>fE D n hz
  simp(maxSteps:=999999)(disch:=omega) only[f8,eZ,cq,hbS,b1,i1]
theorem zBs (D:Dyn)(n:Nat){H:AH}{x0:AV}{z b k:Int}{c:Nat}(h:(x0= .nilPtr/\c=2)\/(∃A,x0= .ptr A 0/\ ¬((1<=z/\z<=2147483647)/\0<=b/\0<=k)/\c=1)):
  f14 D n [x0, .int .i64 z, .int .i64 b, .int .i64 k] H=some (.tuple [.nilSlice, .bool false, .int .i64 ((c:Nat):Int)],H):=by
 rcases h with⟨rfl,rfl⟩ | ⟨A,rfl,hz,rfl⟩
 ·simp(maxSteps:=999999)(disch:=omega) only[f14,eZ,cqN]
 ·by_cases h1:1<=z/\z<=2147483647
  ·have i1: ∀H,f26 D n [.int .i64 z] H=some (.bool true,H):=fun H=>UB D n h1
   by_cases h2:b< ((0:Nat):Int)
   ·simp(maxSteps:=999999)(disch:=omega) only[f14,eZ,cq,i1,h2]
   ·have h3:k< ((0:Nat):Int):=by omega
    simp(maxSteps:=999999)(disch:=omega) only[f14,eZ,cq,i1,h2,h3]
  ·have i1: ∀H,f26 D n [.int .i64 z] H=some (.bool false,H):=fun H=>fE D n h1
   simp(maxSteps:=999999)(disch:=omega) only[f14,eZ,cq,i1]
theorem zG0 (D:Dyn)(n:Nat){H:AH}{x0:AV}{z:Int}{c:Nat}(h:Bad x0 z c):f17 D n [x0, .int .i64 z] H=some (.tuple [.bool false, .int .i64 ((c:Nat):Int)],H):=by
 have e:=zBs D n (H:=H) (x0:=x0) (z:=z) (b:=((0:Nat):Int)) (k:=((1:Nat):Int)) (c:=c) (by
  rcases h with h | ⟨A,h1,h2,h3⟩
  ·exact .inl h
  ·exact .inr ⟨A,h1,fun h=>h2 h.1,h3⟩)
 have hc: ¬((c:Nat):Int)=((0:Nat):Int):=by rcases h with⟨_,rfl⟩ | ⟨_,_,_,rfl⟩<;>omega
 simp(maxSteps:=999999)(disch:=omega) only[f17,eZ,e,qL,nth,hc]
end Go.Eng.Sh
end
section
namespace Go.Di
open Go.Nd (Str Kvs putP delP lookP Srt mayK)
open Go.Bt (inP y6 uA)
open Go.Dr
open Go.Eng.Sh (cO XK aG YX)
structure Re where
 d:Nat
 e:En
structure DP (kv:Kvs)(X:List Re):Prop where
 srt:Srt kv
 fine: ∀r∈X,1<=r.d/\r.d<2147483648/\r.e.fine
 mem: ∀p,p∈kv↔ ∃r∈X,p=xF r.d r.e
 ne:X.Pairwise fun a b=> ¬(a.d=b.d/\a.e.n=b.e.n)
 nc:X.Pairwise fun a b=> ¬(a.d=b.d/\a.e.c=b.e.c)
theorem DP.f {kv:Kvs}{X:List Re}(p:DP kv X){d:Nat}(hd:d<2147483648):KM d kv:=⟨p.srt,fun q hq hi=>by
 obtain⟨r,hr,rfl⟩:=(p.mem q).1 hq;obtain⟨_,h2,h3⟩:=p.fine r hr;by_cases e:d=r.d
 ·exact⟨r.e,h3,by rw[e]⟩
 ·rw[xF,zMy hd h2 e]at hi;cases hi⟩
theorem zFZ {d d':Nat}{a b:En}(hd:d<2147483648)(hd':d'<2147483648)(ha:a.fine)(hb:b.fine)(h:xF d a=xF d' b):d=d'/\a=b:=by
 have h1:=(dJ (by omega) (by omega) (by have:=ha.2.1;omega) (by have:=hb.2.1;omega) (congrArg Prod.fst h)).1;subst h1;exact⟨rfl,zIe ha hb h⟩
theorem DP.mem1 {kv:Kvs}{X:List Re}(p:DP kv X){d:Nat}(hd:d<2147483648){e:En}(he:e.fine):xF d e∈kv↔⟨d,e⟩∈X:=by
 rw[p.mem];constructor
 ·rintro⟨r,hr,h⟩
  obtain⟨_,h2,h3⟩:=p.fine r hr;obtain⟨e1,e2⟩:=zFZ hd h2 he h3 h;rw[e1,e2];exact hr
 ·intro h;exact⟨_,h,rfl⟩
def vG (d:Nat)(nm:Str)(r:Re):Bool:=decide (r.d=d/\r.e.n=nm)
theorem bX {d:Nat}{nm:Str}{r:Re} :vG d nm r=true↔r.d=d/\r.e.n=nm:=by simp[vG]
theorem DP.find {kv:Kvs}{X:List Re}(p:DP kv X){d:Nat}(hd:d<2147483648)(nm:Str):vV d nm kv=(X.find? (vG d nm)).map Re.e:=by
 have f:=p.f hd
 cases h:X.find? (vG d nm)with
 | none=>
  rw[List.find?_eq_none]at h;exact(f.find_none hd).2 fun e he hm hn=>h _ ((p.mem1 hd he).1 hm) (bX.2 ⟨rfl,hn⟩)
 | some r=>
  have hr:=List.mem_of_find?_eq_some h;obtain⟨h1,h2⟩:=bX.1 (List.find?_some h);obtain⟨_,_,hf⟩:=p.fine r hr;have hm:xF d r.e∈kv:=(p.mem1 hd hf).2 (by rw[<-h1];exact hr)
  cases hx:vV d nm kv with
  | none=>exact absurd h2 ((f.find_none hd).1 hx r.e hf hm)
  | some x=>
   obtain⟨g1,g2,g3⟩:=f.found hd hx;have hx':=(p.mem1 hd g1).1 g2;have hp:=p.ne;show some x=some r.e;congr 1;have key: ∀(l:List Re) (a b:Re),(l.Pairwise fun a b=> ¬(a.d=b.d/\a.e.n=b.e.n))->a∈l->b∈l->a.d=b.d->a.e.n=b.e.n->a=b:=by
    intro l
    induction l with
    | nil=>intro a b _ ha;cases ha
    | cons y l ih=>
     intro a b hp ha hb h1 h2;rw[List.pairwise_cons]at hp;rcases List.mem_cons.1 ha with ea | ha'
     ·rcases List.mem_cons.1 hb with eb | hb'
      ·rw[ea,eb]
      ·exact absurd (show y.d=b.d/\y.e.n=b.e.n by rw[<-ea];exact⟨h1,h2⟩) (hp.1 b hb')
     ·rcases List.mem_cons.1 hb with eb | hb'
      ·exact absurd (show y.d=a.d/\y.e.n=a.e.n by rw[<-eb];exact⟨h1.symm,h2.symm⟩) (hp.1 a ha')
      ·exact ih a b hp.2 ha' hb' h1 h2
   have:=key X _ r p.ne hx' hr h1.symm (by rw[h2];exact g3);rw[<-this]
def uE (X:List Re)(d c:Nat):Bool:=X.any fun r=>decide (r.d=d/\r.e.c=c)
theorem zC5 {X:List Re}{d c:Nat} :uE X d c=true↔ ∃r∈X,r.d=d/\r.e.c=c:=by
 rw[uE,List.any_eq_true];simp
theorem DP.taken {kv:Kvs}{X:List Re}(p:DP kv X){d h q:Nat}(hd:d<2147483648)(hh:h<1024)(hq:q<256):uS (chE d h kv) q=uE X d (256*h+q+1):=by
 obtain⟨_,h2,h3⟩:=(p.f hd).chain (d:=d) hd hh;rw[Bool.eq_iff_iff,zC5,uS,List.any_eq_true];constructor
 ·rintro⟨x,hx,hc⟩
  have hf:=(h2 x hx).1;refine⟨⟨d,x⟩,(p.mem1 hd hf).1 ((h3 x hf).1 hx).1,rfl, ?_⟩;have e1:=(h2 x hx).2;obtain⟨q1,q2,_,_,_,q6⟩:=hf;simp only[beq_iff_eq]at hc;show x.c=_;rw[q6]at e1;omega
 ·rintro⟨r,hr,e1,e2⟩
  obtain⟨_,_,hf⟩:=p.fine r hr;have hm:xF d r.e∈kv:=(p.mem1 hd hf).2 (by rw[<-e1];exact hr);refine⟨r.e,(h3 r.e hf).2 ⟨hm, ?_⟩, ?_⟩
  ·rw[hf.2.2.2.2.2,e2];omega
  ·rw[e2];simp only[beq_iff_eq];omega
theorem DP.placeF {kv:Kvs}{X:List Re}(p:DP kv X){d h:Nat}(hd:d<2147483648)(hh:h<1024):hZ (chE d h kv)=(List.range 256).find? fun q=> !uE X d (256*h+q+1):=by
 rw[hZ];have hc: ∀(l:List Nat),(∀x∈l,x<256)->(l.find? fun q=> !uS (chE d h kv) q)=l.find? fun q=> !uE X d (256*h+q+1):=by
  intro l
  induction l with
  | nil=>intro _;rfl
  | cons a l ih=>
   intro hl;rw[List.find?_cons,List.find?_cons,p.taken hd hh (hl a (zB ..)),ih fun x hx=>hl x (zA _ hx)]
 exact hc _ fun x hx=>List.mem_range.1 hx
theorem DP.add {kv:Kvs}{X:List Re}(p:DP kv X){d:Nat}(h1:1<=d)(h2:d<2147483648){e:En}(he:e.fine)(hn:X.find? (vG d e.n)=none)(hc: ∀r∈X,¬(r.d=d/\r.e.c=e.c)):DP (putP (yG d e.c) (vR e) kv) (X++[⟨d,e⟩]):=by
 refine⟨Nd.srt_put _ _ p.srt,fun r hr=> ?_,fun q=> ?_, ?_, ?_⟩
 ·rcases List.mem_append.1 hr with hr | hr
  ·exact p.fine r hr
  ·rw[List.mem_singleton.1 hr];exact⟨h1,h2,he⟩
 ·rw[fC p.srt];constructor
  ·rintro(rfl | ⟨h,_⟩)
   ·exact⟨⟨d,e⟩,by simp,rfl⟩
   ·obtain⟨r,hr,rfl⟩:=(p.mem q).1 h;exact⟨r,List.mem_append.2 (.inl hr),rfl⟩
  ·rintro⟨r,hr,rfl⟩
   rcases List.mem_append.1 hr with hr | hr
   ·refine .inr ⟨(p.mem _).2 ⟨r,hr,rfl⟩,fun e'=> ?_⟩;obtain⟨_,g2,g3⟩:=p.fine r hr;obtain⟨k1,k2⟩:=dJ (by omega) (by omega) (by have:=g3.2.1;omega) (by have:=he.2.1;omega) e';exact hc r hr ⟨k1,k2⟩
   ·rw[List.mem_singleton.1 hr];exact .inl rfl
 ·rw[List.pairwise_append];refine⟨p.ne,by simp,fun a ha b hb=> ?_⟩;rw[List.mem_singleton.1 hb]
  rintro⟨q1,q2⟩
  exact List.find?_eq_none.1 hn a ha (bX.2 ⟨q1,q2⟩)
 ·rw[List.pairwise_append];refine⟨p.nc,by simp,fun a ha b hb=> ?_⟩;rw[List.mem_singleton.1 hb];exact hc a ha
theorem VS {R:Re->Re->Prop}(hs: ∀a b,R a b->R b a): ∀ {X:List Re} {i:Nat} (h:i<X.length),X.Pairwise R-> ∀r∈X.take i++X.drop (i+1),R r X[i]
 | a::X,0,_,hp,r,hr=>by
  rw[List.pairwise_cons]at hp;exact hs _ _ (hp.1 r (by simpa using hr))
 | a::X,i+1,h,hp,r,hr=>by
  rw[List.pairwise_cons]at hp;have hi:i<X.length:=by simpa using h
  simp only[List.take_succ_cons,List.drop_succ_cons,List.cons_append,List.mem_cons]at hr;rcases hr with rfl | hr
  ·exact hp.1 _ (zR hi)
  ·exact VS hs hi hp.2 r hr
theorem ZA {X:List Re}{i:Nat} :(X.take i++X.drop (i+1)).Sublist X:=by
 rw[<-List.eraseIdx_eq_take_drop_succ];exact List.eraseIdx_sublist ..
theorem zED {X:List Re}{i:Nat}(h:i<X.length){r:Re}(hr:r∈X):r=X[i]\/r∈X.take i++X.drop (i+1):=by
 have e:X=X.take i++X[i]::X.drop (i+1):=by rw[List.getElem_cons_drop,List.take_append_drop]
 rw[e]at hr;rcases List.mem_append.1 hr with hr | hr
 ·exact .inr (List.mem_append.2 (.inl hr))
 ·rcases List.mem_cons.1 hr with rfl | hr
  ·exact .inl rfl
  ·exact .inr (List.mem_append.2 (.inr hr))
theorem DP.del {kv:Kvs}{X:List Re}(p:DP kv X){i:Nat}(h:i<X.length):DP (delP (yG X[i].d X[i].e.c) kv) (X.take i++X.drop (i+1)):=by
 obtain⟨f1,f2,f3⟩:=p.fine _ (zR h);refine⟨Nd.srt_del _ p.srt,fun r hr=>p.fine r (ZA.subset hr),fun q=> ?_,p.ne.sublist ZA,p.nc.sublist ZA⟩;rw[QO p.srt,p.mem];constructor
 ·rintro⟨⟨r,hr,rfl⟩,hk⟩
  rcases zED h hr with rfl | hr
  ·exact absurd rfl hk
  ·exact⟨r,hr,rfl⟩
 ·rintro⟨r,hr,rfl⟩
  have hr':=ZA.subset hr;refine⟨⟨r,hr',rfl⟩,fun hk=> ?_⟩;obtain⟨_,g2,g3⟩:=p.fine r hr';have hk':yG r.d r.e.c=yG X[i].d X[i].e.c:=hk;exact VS (R:=fun a b=> ¬(a.d=b.d/\a.e.c=b.e.c)) (fun a b h q=>h ⟨q.1.symm,q.2.symm⟩) h p.nc r hr (dJ (by omega) (by omega) (by have:=g3.2.1;omega) (by have:=f3.2.1;omega) hk')
theorem DP.list {kv:Kvs}{X:List Re}(p:DP kv X){d b:Nat}(hd:d<2147483648)(hb:b<=262144){l:List En}(hl:l.Pairwise fun x y=>x.c<y.c)(hm: ∀e,e∈l↔b<e.c/\⟨d,e⟩∈X):l=liE d b kv:=by
 have f:=p.f hd;obtain⟨_,g2,g3⟩:=f.list (b:=b) hd hb;refine JB hl (f.sorted hd hb) fun e=> ?_
 rw[hm];constructor
 ·rintro⟨h1,h2⟩
  have hf:e.fine:=(p.fine _ h2).2.2;exact(g3 e hf).2 ⟨(p.mem1 hd hf).2 h2,h1⟩
 ·intro he;have hf:=(g2 e he).1;obtain⟨q1,q2⟩:=(g3 e hf).1 he;exact⟨q2,(p.mem1 hd hf).1 q1⟩
theorem DP.none {kv:Kvs}{X:List Re}(p:DP kv X){d b:Nat}(hd:d<2147483648)(hb:262144<=b){l:List En}(hm: ∀e,e∈l↔b<e.c/\⟨d,e⟩∈X):l=liE d 262144 kv:=by
 obtain⟨_,g2,_⟩:=(p.f hd).list (b:=262144) hd (by omega);have h1:l=[]:=List.eq_nil_iff_forall_not_mem.2 fun e he=>by
  obtain⟨q1,q2⟩:=(hm e).1 he;have:=(p.fine _ q2).2.2.2.1;simp only at this;omega
 have h2:liE d 262144 kv=[]:=List.eq_nil_iff_forall_not_mem.2 fun e he=>by
  have:=g2 e he;have:=this.1.2.1;omega
 rw[h1,h2]
theorem DP.pairs {kv l:Kvs}{X:List Re}(p:DP kv X)(hl:Srt l)(hm: ∀q,q∈l↔ ∃r∈X,q=xF r.d r.e):l=kv:=
 Dr.srt_ext hl p.srt fun q=>by rw[hm,p.mem]
theorem zNR:DP [] []:=⟨trivial,fun r h=>(by cases h),fun q=>⟨fun h=>(by cases h),fun⟨r,h,_⟩=>(by cases h)⟩, .nil, .nil⟩
open Go.Eng (ltS qY)
theorem dS (n:Nat): ∀k,dig n (k+1)=dig (n / 256) k++[UInt8.ofNat (n % 256)]
 | 0=>by simp[dig]
 | k+1=>by
  show UInt8.ofNat (n / 256 ^ (k+1) % 256)::dig n (k+1)=(UInt8.ofNat (n / 256 / 256 ^ k % 256)::dig (n / 256) k)++[_];rw[dS n k,Nat.div_div_eq_div_mul,Nat.pow_succ,Nat.mul_comm 256,List.cons_append]
theorem zJP: ∀(w x:Nat) (pre:Str),x<255*256 ^ w-> ∃(s:Str) (b:UInt8) (k:Nat),pre++dig x (w+1)=s++[b]++List.replicate k 255/\b.toNat<255/\s++[UInt8.ofNat (b.toNat+1)]++List.replicate k 0=pre++dig (x+1) (w+1)/\s.length+1+k=pre.length+w+1
 | w,x,pre,hx=>by
  by_cases h:x % 256<255
  ·have hb:(UInt8.ofNat (x % 256)).toNat=x % 256:=by rw[UInt8.toNat_ofNat'];omega
   refine⟨pre++dig (x / 256) w,UInt8.ofNat (x % 256),0, ?_,by rw[hb];exact h, ?_,by simp[yY]⟩
   ·rw[dS];simp
   ·rw[dS,hb,show(x+1) / 256=x / 256 by omega,show(x+1) % 256=x % 256+1 by omega];simp
  ·cases w with
   | zero=>simp only[Nat.pow_zero]at hx;omega
   | succ w=>
    rw[Nat.pow_succ]at hx;obtain⟨s,b,k,h1,h2,h3,h4⟩:=zJP w (x / 256) pre (by omega);refine⟨s,b,k+1, ?_,h2, ?_,by omega⟩
    ·rw[dS,<-List.append_assoc,h1,show x % 256=255 by omega,List.replicate_succ',List.append_assoc (s++[b])];rfl
    ·rw[dS,show(x+1) / 256=x / 256+1 by omega,show(x+1) % 256=0 by omega,<-List.append_assoc,<-h3,List.replicate_succ',List.append_assoc (s++[UInt8.ofNat (b.toNat+1)])];rfl
theorem zBn (t:Str):ltS t []=false:=by cases t<;>rfl
theorem ltS_zero: ∀(z:Nat) (t:Str),z<=t.length->ltS t (List.replicate z 0)=false
 | 0,t,_=>zBn t
 | z+1,a::t,h=>by
  rw[List.replicate_succ,kB,ltS_zero z t (by simpa using h)];have: ¬a<0:=fun h=>by have:=UInt8.lt_iff_toNat_lt.1 h;simp at this
  simp[this]
theorem U3 (z:Nat): ∀(q t:Str),q.length+z<=t.length->ltS t (q++List.replicate z 0)=ltS t q
 | [],t,h=>by rw[List.nil_append,ltS_zero z t (by simpa using h),zBn]
 | b::q,[],h=>by simp at h
 | b::q,a::t,h=>by rw[List.cons_append,kB,kB,U3 z q t (by simp only[zF]at h;omega)]
theorem DP.key9 {kv:Kvs}{X:List Re}(p:DP kv X){q:Str×Str}(hq:q∈kv):q.1.length=9:=by
 obtain⟨r,_,rfl⟩:=(p.mem q).1 hq;exact uB _ _
end Go.Di
namespace Go.Eng.Sh
open Go.Nd (Ptr yH qQ Kvs Srt)
open Go.Bt Go.Dr Go.Di
theorem zCY (D:Dyn)(n:Nat)(hn:2000<=n){H:AH}(hk:H.ok)(s:Str){b:UInt8}(hb:b.toNat<255)(hs:s.length<=1000000)(k:Nat)(hk9:k<=1000): ∃H',f39 D n [S (s++[b]++List.replicate k 255)] H=some (S (s++[UInt8.ofNat (b.toNat+1)]),H')/\Prs H H':=by
 obtain⟨H1,A,b1,p1,g1,m1,n1⟩:=box hk (.cells [.int .u8 ((b.toNat+1:Nat):Int)] 5 1 false);refine⟨H1, ?_,p1⟩;obtain⟨T,hT⟩: ∃T,T=s++[b]++List.replicate k 255:=⟨_,rfl⟩;have hTl:T.length=s.length+1+k:=by rw[hT];simp;omega
 have hTb: ∀(h:s.length<T.length),T[s.length]=b:=fun h=>by subst hT;simp
 have hTr: ∀i (h:i<T.length),s.length<i->T[i]=255:=fun i h hi=>by
  subst hT;rw[List.getElem_append_right (by simp;omega),List.getElem_replicate]
 have hTt:T.take s.length=s:=by rw[hT,List.append_assoc,List.take_left'];rfl
 rw[<-hT];have hl:kN (S T)=some (.int .i64 ((s.length+1+k:Nat):Int)):=by rw[yT,hTl]
 have hsu:((s.length+1+k:Nat):Int) - ((1:Nat):Int)=((s.length+k - 0:Nat):Int):=by omega
 have lp:qT n (zI8 D n) [S T, .int .i64 ((s.length+k - 0:Nat):Int)] H=some (.ret (S (s++[UInt8.ofNat (b.toNat+1)])),H1):=by
  refine j8 (fun i=>[S T, .int .i64 ((s.length+k - i:Nat):Int)]) k (fun i hi=> ?_) (fun q=> ?_) n (by omega)
  ·have hge:((0:Nat):Int)<=((s.length+k - i:Nat):Int):=by omega
   have hx:dL (S T) (.int .i64 ((s.length+k - i:Nat):Int))=some (.int .u8 ((255:Nat):Int)):=by
    rw[xX T .i64 (show s.length+k - i<T.length by omega),hTr _ _ (by omega)];rfl
   have hsub:((s.length+k - i:Nat):Int) - ((1:Nat):Int)=((s.length+k - (i+1):Nat):Int):=by omega
   simp(maxSteps:=999999)(disch:=omega) only[zI8,eZ,hge,hx,ne_eq,not_true_eq_false,hsub]
  ·rw[show s.length+k - k=s.length by omega];have hge:((0:Nat):Int)<=((s.length:Nat):Int):=by omega
   have hx:dL (S T) (.int .i64 ((s.length:Nat):Int))=some (.int .u8 ((b.toNat:Nat):Int)):=by
    rw[xX T .i64 (show s.length<T.length by omega),hTb]
   have hne:((b.toNat:Nat):Int)≠((255:Nat):Int):=by omega
   have hcut:Z7 (S T) none (some (.int .i64 ((s.length:Nat):Int)))=some (S s):=by
    rw[zH9 _ _ (by omega) (by simp;omega)];simp[hTt]
   have hadd:((b.toNat:Nat):Int)+((1:Nat):Int)=((b.toNat+1:Nat):Int):=by omega
   have hw:IntKind.wrap .u8 ((b.toNat+1:Nat):Int)=((b.toNat+1:Nat):Int):=by rw[wrap_u8];omega
   have bl:wK 5 1 1 [.int .u8 ((0:Nat):Int)] [(0, .int .u8 ((b.toNat+1:Nat):Int))]=some (.cells [.int .u8 ((b.toNat+1:Nat):Int)] 5 1 false,fun A=> .slice A 0 1 2):=rfl;have hcv:zD6 (.slice A 0 1 2) H1=some (S [UInt8.ofNat (b.toNat+1)]):=cv1 p1.ok (by rw[zEv (by omega)];exact g1);have had:jU .add (S s) (S [UInt8.ofNat (b.toNat+1)])=some (S (s++[UInt8.ofNat (b.toNat+1)])):=by rw[vK _ _ (by simp;omega)]
   refine vE ?_;simp(maxSteps:=999999)(disch:=omega) only[zI8,eZ,hge,hx,hne,ne_eq,not_false_eq_true,hcut,hadd,hw,bl,b1,hcv,had]
 simp(maxSteps:=999999)(disch:=omega) only[f39,eZ,hl,hsu,lp]
theorem UV (m:Nat)(hm:700000000<=m){H:AH}{At M L d most:Nat}{kv:Kvs}{X:List Re}{bz:Int}(t:wC H At M L kv)(hL:L<=1000000)(hkv:kv.length<=100000000)(p:DP kv X)(hd:1<=d)(hd2:d<=2147483647)(hb0:0<=bz)(hmo:0<=most):
  ∃H' v,f14 (dy (m+1)) (m+1) [.ptr At 0, .int .i64 ((d:Nat):Int), .int .i64 bz, .int .i64 ((most:Nat):Int)] H=some (.tuple [v, .bool (!decide (most< (liE d (min bz.toNat 262144) kv).length)), .int .i64 ((0:Nat):Int)],H')/\Prs H H'/\Ens H' v ((liE d (min bz.toNat 262144) kv).take most)/\ ∀B,Blk v B->H.next<=B:=by
 obtain⟨s,b,k,h1,h2,h3,h4⟩:=zJP 3 d [101] (by omega);have hp:vZ d=s++[b]++List.replicate k 255:=h1;have hp2:s++[UInt8.ofNat (b.toNat+1)]++List.replicate k 0=vZ (d+1):=h3;simp only[qH]at h4;refine zG8 m hm t hL hkv (p.f (by omega)) hd hd2 hb0 rfl hmo (q:=s++[UInt8.ofNat (b.toNat+1)]) (fun hk=> ?_) ?_
 ·rw[hp];exact zCY (dy (m+1)) (m+1) (by omega) hk s h2 (by omega) k (by omega)
 ·have hl:=((p.f (d:=d) (by omega)).list (b:=min bz.toNat 262144) (by omega) (by omega)).1;rw[<-hl];refine List.filter_congr fun x hx=> ?_
  have hz:=U3 k (s++[UInt8.ofNat (b.toNat+1)]) x.1 (by rw[p.key9 hx];simp;omega);rw[hp2]at hz;have e1:(s++[UInt8.ofNat (b.toNat+1)]).isEmpty=false:=by cases s<;>rfl
  have e2:(vZ (d+1)).isEmpty=false:=rfl;simp only[inP,y6,e1,e2,hz]
end Go.Eng.Sh
end
section
namespace Go.Eng
theorem zHS {α:Type}(f:α->List AV)(k:Nat)(hf: ∀a,(f a).length=k): ∀(l:List α) (i:Nat),(l.flatMap f).take (i*k)=(l.take i).flatMap f
 | [],i=>by simp
 | p::l,0=>by simp
 | p::l,i+1=>by
  rw[zP,List.take_succ_cons,zP,<-zHS f k hf l i,show(i+1)*k=(f p).length+i*k by rw[hf,Nat.succ_mul,Nat.add_comm],List.take_length_add_append]
theorem zN2 {α:Type}(f:α->List AV)(k:Nat)(hf: ∀a,(f a).length=k): ∀(l:List α) (i:Nat),(l.flatMap f).drop (i*k)=(l.drop i).flatMap f
 | [],i=>by simp
 | p::l,0=>by simp
 | p::l,i+1=>by
  rw[zP,List.drop_succ_cons,<-zN2 f k hf l i,show(i+1)*k=(f p).length+i*k by rw[hf,Nat.succ_mul,Nat.add_comm],List.drop_length_add_append]
theorem zF6 {α:Type}(f:α->List AV)(hf: ∀a,qP (f a)=true)(l:List α):qP (l.flatMap f)=true:=by
 rw[jZ];intro x hx;obtain⟨p,_,hx⟩:=List.mem_flatMap.1 hx;exact jZ.1 (hf p) x hx
theorem yN.st1 {k e n:Nat}{H:AH}{v:AV}{l:List AV}(h:yN k e H v n l)(hk:H.ok)(hpos:0<k){i j:Nat}(hi:i<n)(hj:j<k){x:AV}(hx:Eng.isCell x=true):
  ∃A o H',(∀κ (z:Int),z=(i:Int)->jB k v (.int κ z)=some (.ptr A o))/\stN 1 (.ptr A (o+j)) x H=some (qN,H')/\yN k e H' v n (l.set (i*k+j) x)/\Stp (Blk v) H H':=by
 have hik:i*k+k<=n*k:=by rw[<-Nat.succ_mul];exact zW _ hi
 have hb:Nat.blt i n=true:=by rw[zL];exact hi
 have ix: ∀(A cc:Nat) κ (z:Int),z=(i:Int)->jB k (.slice A 0 n cc) (.int κ z)=some (.ptr A (0+i*k)):=fun A cc κ z hz=>by
  subst hz;simp only[jB,yQ κ (show(0:Int)<=(i:Int)by omega),zX,hb,cond_true,yE]
 rcases h with⟨h0,⟨_,rfl⟩ | ⟨A,rfl,hA,hg⟩⟩ | ⟨h0,A,e',g,rfl,hA,hg⟩
 ·omega
 ·refine⟨A,0+i*k,_,ix A 1,Q7 hg hpos hx (by omega), .inl ⟨by simp[h0], .inr ⟨A,rfl,hA,by rw[AH.put_get,if_pos rfl,Nat.zero_add]⟩⟩,(Stp.refl hk).put hA _ (.inr (Blk.slice.2 rfl))⟩
 ·refine⟨A,0+i*k,_,ix A (2*n),Q7 hg hpos hx (by omega), .inr ⟨by simp[h0],A,e',g,rfl,hA,by rw[AH.put_get,if_pos rfl,Nat.zero_add]⟩,(Stp.refl hk).put hA _ (.inr (Blk.slice.2 rfl))⟩
theorem lowG {α:Type}{f:α->List AV}{k e:Nat}(hf: ∀a,(f a).length=k)(hpos:0<k){H:AH}{v:AV}{l:List α}(h:yN k e H v l.length (l.flatMap f))(h0:l=[]->v= .nilSlice){j:Nat}(hj:j<=l.length): ∃r,j0 k v (some (.int .i64 (j:Nat))) none none H=some r/\Rw k H r (l.drop j).length ((l.drop j).flatMap f):=by
 by_cases hlt:j<l.length
 ·obtain⟨r,e1,w,_⟩:=Sh.slSl_lo h hpos hlt .i64;rw[zN2 f k hf]at w;exact⟨r,e1,by rw[zO];exact w⟩
 ·obtain rfl:j=l.length:=by omega
  by_cases hp:0<l.length
  ·obtain⟨r,e1,w⟩:=ZD h hpos hp .i64;exact⟨r,e1,by rw[List.drop_length];exact w⟩
  ·have hl:l=[]:=zH (by omega);have hv:=h0 hl;subst hl;subst hv;exact⟨.nilSlice,rfl,Rw.nil _ _⟩
theorem insG {α:Type}{f:α->List AV}{k e bytes:Nat}(hf: ∀a,(f a).length=k)(hc: ∀a,qP (f a)=true)(hpos:0<k)(hb:bytes<=1000){H:AH}{v:AV}{l:List α}(hk:H.ok)(h:yN k e H v l.length (l.flatMap f))(h0:l=[]->v= .nilSlice){j:Nat}(hj:j<=l.length)(hl:l.length<=100000000)(a:α):
  ∃H1 A1 r1 w1 H2 A2 H3 w2 H4 r2 w3 H5,(∀(mk:Nat->AV) (K:AV->AH->Rs),bA (some (.cells [] e k false,mk)) H K=K (mk A1) H1)/\j0 k v none (some (.int .i64 (j:Nat))) none H1=some r1/\
   apP e k bytes (.slice A1 0 0 0) r1 H1=some (w1,H2)/\(∀(mk:Nat->AV) (K:AV->AH->Rs),bA (some (.cells (f a) e k false,mk)) H2 K=K (mk A2) H3)/\
   apP e k bytes w1 (.slice A2 0 1 2) H3=some (w2,H4)/\j0 k v (some (.int .i64 (j:Nat))) none none H4=some r2/\apP e k bytes w2 r2 H4=some (w3,H5)/\Prs H H2/\Prs H H5/\yN k e H5 w3 (l.take j++a::l.drop j).length ((l.take j++a::l.drop j).flatMap f)/\ ∀B,Blk w3 B->H.next<=B:=by
 obtain⟨H1,A1,b1,p1,g1,m1,n1⟩:=box hk (.cells [] e k false);have h1:=yN.mono h p1 fun _ _ x=>x
 obtain⟨r1,c1,q1⟩:=h1.hi hpos hj;rw[zHS f k hf]at q1;have G1:yN k e H1 (.slice A1 0 0 0) 0 []:= .inr ⟨by simp,A1,e,false,rfl,n1,g1⟩;obtain⟨w1,H2,e2,G2,s2,f2⟩:=G1.app (bytes:=bytes) p1.ok hpos q1.srcOf q1.len (zF6 f hc _) (by omega) hb;have N1:=p1.next;have N2:=s2.next
 have P2:Prs H H2:=p1.fresh s2 (fun B hB=>by rw[Blk.slice.1 hB];exact m1);obtain⟨H3,A2,b3,p3,g3,m3,n3⟩:=box s2.ok (.cells (f a) e k false);have hbe:Nat.beq k k=true:=by rw[Nat.beq_eq]
 have hsrc:srcOf k (.slice A2 0 1 2) H3=some (1,f a):=
  Rw.srcOf (n:=1) ⟨by rw[hf,Nat.one_mul], .inr (.inr ⟨A2,0,2,f a,e,k,false,rfl,g3,n3,by rw[hf];omega,by rw[List.drop_zero,Nat.one_mul,zK (by rw[hf];exact Nat.le_refl _)]⟩)⟩
 obtain⟨w2,H4,e4,G4,s4,f4⟩:=(G2.mono p3 (fun _ _ x=>x)).app (bytes:=bytes) (m:=1) (new:=f a) p3.ok hpos hsrc (by rw[hf,Nat.one_mul]) (hc a) (by omega) hb;have N3:=p3.next;have N4:=s4.next
 have fw1: ∀B,Blk w1 B->H.next<=B:=fun B hB=>by
  rcases f2 B hB with e | e
  ·rw[Blk.slice.1 e];exact m1
  ·omega
 have P4:Prs H H4:=(P2.trans p3).fresh s4 fw1;have h4:=yN.mono h P4 fun _ _ x=>x
 obtain⟨r2,c2,q2⟩:=lowG hf hpos h4 h0 hj;obtain⟨w3,H5,e5,G5,s5,f5⟩:=G4.app (bytes:=bytes) s4.ok hpos q2.srcOf q2.len (zF6 f hc _) (by simp;omega) hb;have fw2: ∀B,Blk w2 B->H.next<=B:=fun B hB=>by
  rcases f4 B hB with e | e
  ·exact fw1 B e
  ·omega
 refine⟨H1,A1,r1,w1,H2,A2,H3,w2,H4,r2,w3,H5,b1,c1,e2,b3,e4,c2,e5,P2,P4.fresh s5 fw2, ?_,fun B hB=> ?_⟩
 ·have hlen:0+j+1+(l.drop j).length=(l.take j++a::l.drop j).length:=by
   simp only[zI,zG,zF,zO];omega
  rw[hlen]at G5;have hfl:[]++(l.take j).flatMap f++f a++(l.drop j).flatMap f=(l.take j++a::l.drop j).flatMap f:=by
   simp
  rw[hfl]at G5;exact G5
 ·rcases f5 B hB with e | e
  ·exact fw2 B e
  ·omega
theorem delG {α:Type}{f:α->List AV}{k e bytes:Nat}(hf: ∀a,(f a).length=k)(hc: ∀a,qP (f a)=true)(hpos:0<k)(hb:bytes<=1000){H:AH}{v:AV}{l:List α}(hk:H.ok)(h:yN k e H v l.length (l.flatMap f)){j:Nat}(hj:j<l.length)(hl:l.length<=100000000):
  ∃H1 A1 r1 r2 w1 H2 w2 H3,(∀(mk:Nat->AV) (K:AV->AH->Rs),bA (some (.cells [] e k false,mk)) H K=K (mk A1) H1)/\j0 k v none (some (.int .i64 (j:Nat))) none H1=some r1/\j0 k v (some (.int .i64 ((j+1:Nat):Int))) none none H1=some r2/\
   apP e k bytes (.slice A1 0 0 0) r1 H1=some (w1,H2)/\(∀K:Rs,chk (j0 k v (some (.int .i64 ((j+1:Nat):Int))) none none H2) r2 K=K)/\apP e k bytes w1 r2 H2=some (w2,H3)/\Prs H H3/\yN k e H3 w2 (l.take j++l.drop (j+1)).length ((l.take j++l.drop (j+1)).flatMap f)/\ ∀B,Blk w2 B->H.next<=B:=by
 obtain⟨H1,A1,b1,p1,g1,m1,n1⟩:=box hk (.cells [] e k false);have h1:=yN.mono h p1 fun _ _ x=>x
 have h0:l=[]->v= .nilSlice:=fun e=>by subst e;simp at hj
 obtain⟨r1,c1,q1⟩:=h1.hi hpos (Nat.le_of_lt hj);rw[zHS f k hf]at q1;obtain⟨r2,c2,q2⟩:=lowG hf hpos h1 h0 (j:=j+1) (by omega);have G1:yN k e H1 (.slice A1 0 0 0) 0 []:= .inr ⟨by simp,A1,e,false,rfl,n1,g1⟩;obtain⟨w1,H2,e2,G2,s2,f2⟩:=G1.app (bytes:=bytes) p1.ok hpos q1.srcOf q1.len (zF6 f hc _) (by omega) hb;have N1:=p1.next;have N2:=s2.next
 have P2:Prs H H2:=p1.fresh s2 (fun B hB=>by rw[Blk.slice.1 hB];exact m1);have h2:=yN.mono h P2 fun _ _ x=>x
 have c2':j0 k v (some (.int .i64 ((j+1:Nat):Int))) none none H2=some r2:=by
  rw[Sh.slSl_same h1 h2 hpos];exact c2
 have q22:Rw k H2 r2 (l.drop (j+1)).length ((l.drop (j+1)).flatMap f):=by
  refine Rw.stp q2 s2 fun B hB hge=> ?_
  have:=h.lt (KW c2 B hB);have:=Blk.slice.1 hge;omega
 obtain⟨w2,H3,e3,G3,s3,f3⟩:=G2.app (bytes:=bytes) s2.ok hpos q22.srcOf q22.len (zF6 f hc _) (by simp;omega) hb;have fw1: ∀B,Blk w1 B->H.next<=B:=fun B hB=>by
  rcases f2 B hB with e | e
  ·rw[Blk.slice.1 e];exact m1
  ·omega
 refine⟨H1,A1,r1,r2,w1,H2,w2,H3,b1,c1,c2,e2,fun K=>j9 c2' (yJ q22),e3,P2.fresh s3 fw1, ?_,fun B hB=> ?_⟩
 ·have hlen:0+j+(l.drop (j+1)).length=(l.take j++l.drop (j+1)).length:=by
   simp only[zI,zG,zO];omega
  rw[hlen]at G3;have hfl:[]++(l.take j).flatMap f++(l.drop (j+1)).flatMap f=(l.take j++l.drop (j+1)).flatMap f:=by simp
  rw[hfl]at G3;exact G3
 ·rcases f3 B hB with e | e
  ·exact fw1 B e
  ·omega
end Go.Eng
end
section
namespace Go.Eng.Sh
open Go.Nd (Ptr yH qQ Kvs Srt Str)
open Go.Bt Go.Dr Go.Di
def okN (x:Int):Bool:=decide (1<=x)&&decide (x<=2147483647)
theorem xS {x:Int} :okN x=true↔1<=x/\x<=2147483647:=by simp[okN]
theorem xR (D:Dyn)(n:Nat){H:AH}(x:Int):f33 D n [.int .i64 x] H=some (.bool (okN x),H):=by
 by_cases h1:(1:Int)<=x
 ·by_cases h2:x<=2147483647
  ·have a1:((1:Nat):Int)<=x:=by omega
   have a2:x<=((2147483647:Nat):Int):=by omega
   simp only[f33,eZ,a1,a2,okN,h1,h2,decide_true,Bool.and_self]
  ·have a1:((1:Nat):Int)<=x:=by omega
   have a2: ¬x<=((2147483647:Nat):Int):=by omega
   simp only[f33,eZ,a1,a2,okN,h1,h2,decide_true,decide_false,Bool.and_false]
 ·have a1: ¬((1:Nat):Int)<=x:=by omega
  simp only[f33,eZ,a1,okN,h1,decide_false,Bool.false_and]
theorem zE0 (D:Dyn)(n:Nat){H:AH}(s:Str)(hn:s.length<n)(hs:s.length<=1000000000):qT n (zCP D n) [S s, .int .i64 ((0:Nat):Int)] H=some (if hasB s then .ret (.bool false)else .exit 0 [],H):=by
 obtain⟨p,hp⟩: ∃p:UInt8->Bool,p=fun b=>b==0||b==47:=⟨_,rfl⟩
 have hb:hasB s=s.any p:=by rw[hp];rfl
 have hpe: ∀b,p b=(b==0||b==47):=fun b=>by rw[hp]
 have hk:=List.findIdx_le_length (xs:=s) (p:=p);have small: ∀i (h:i<s.length),i<s.findIdx p-> ¬(((s[i]).toNat:Nat):Int)=((0:Nat):Int)/\ ¬(((s[i]).toNat:Nat):Int)=((47:Nat):Int):=fun i h hi=>by
  have:=List.not_of_lt_findIdx hi;rw[hpe]at this;simp only[Bool.or_eq_false_iff,beq_eq_false_iff_ne,ne_eq]at this;refine⟨fun e=>this.1 ?_,fun e=>this.2 ?_⟩
  ·exact UInt8.toNat_inj.1 (by simpa using e)
  ·exact UInt8.toNat_inj.1 (show _=47 by omega)
 refine j8 (fun i=>[S s, .int .i64 ((i:Nat):Int)]) (s.findIdx p) (fun i hi=> ?_) (fun q=> ?_) n (by omega)
 ·have hil:i<s.length:=by omega
  have hiI:((i:Nat):Int)< ((s.length:Nat):Int):=by omega
  have hi1:((i:Nat):Int)+((1:Nat):Int)=((i+1:Nat):Int):=by omega
  have hx:=xX s .i64 hil;obtain⟨z0,z47⟩:=small i hil hi;simp(maxSteps:=999999)(disch:=omega) only[zCP,eZ,yT,hiI,hx,z0,z47,hi1]
 ·by_cases hlt:s.findIdx p<s.length
  ·have ha:s.any p=true:=by
    rw[List.any_eq_true];exact List.findIdx_lt_length.1 hlt
   rw[hb,ha,if_pos rfl];have hx:=xX s .i64 hlt;have hpx:=List.findIdx_getElem (xs:=s) (p:=p) (w:=hlt);have hiI:((s.findIdx p:Nat):Int)< ((s.length:Nat):Int):=by omega
   refine vE ?_;rw[hpe]at hpx;simp only[Bool.or_eq_true,beq_iff_eq]at hpx;by_cases h0:((s[s.findIdx p].toNat:Nat):Int)=((0:Nat):Int)
   ·simp(maxSteps:=999999)(disch:=omega) only[zCP,eZ,yT,hiI,hx,h0]
   ·have h47:((s[s.findIdx p].toNat:Nat):Int)=((47:Nat):Int):=by
     rcases hpx with e | e
     ·exact absurd (by rw[e];rfl) h0
     ·rw[e];rfl
    simp(maxSteps:=999999)(disch:=omega) only[zCP,eZ,yT,hiI,hx,h0,h47]
  ·have hle:s.findIdx p=s.length:=by omega
   have ha:s.any p=false:=by
    cases h:s.any p with
    | false=>rfl
    | true=>rw[List.any_eq_true]at h;exact absurd (List.findIdx_lt_length.2 h) hlt
   rw[hb,ha,hle];refine qU ?_;simp(maxSteps:=999999)(disch:=omega) only[zCP,eZ,yT,zS]
theorem zDZ (D:Dyn)(n:Nat){H:AH}(s:Str)(hn:s.length<n)(hs:s.length<=1000000000):f34 D n [S s] H=some (.bool (wR s),H):=by
 have e1:(AV.str 1 46)=S [46]:=rfl;have e2:(AV.str 2 11822)=S [46,46]:=rfl;have e3:(AV.str 9 2147850105812604056366)=S [46,115,110,97,112,115,104,111,116]:=rfl;have lp:=zE0 D n (H:=H) s hn hs;by_cases h0:s=[]
 ·have r:wR s=false:=by rw[h0];decide
  have q:((s.length:Nat):Int)< ((1:Nat):Int):=by rw[h0];decide
  simp(config:= { maxSteps:=1000000}) only[f34,eZ,yT,q,r]
 have q0: ¬((s.length:Nat):Int)< ((1:Nat):Int):=by have:=List.length_pos_iff.2 h0;omega
 by_cases hl:s.length<=32
 ·have q1: ¬((32:Nat):Int)< ((s.length:Nat):Int):=by omega
  by_cases h1:s=[46]
  ·have r:wR s=false:=by rw[h1];decide
   have q:_=True:=eq_true h1;simp(config:= { maxSteps:=1000000}) only[f34,eZ,yT,q0,q1,e1,e2,e3,yO,q,r]
  by_cases h2:s=[46,46]
  ·have r:wR s=false:=by rw[h2];decide
   have q:_=True:=eq_true h2;simp(config:= { maxSteps:=1000000}) only[f34,eZ,yT,q0,q1,e1,e2,e3,yO,h1,q,r]
  by_cases h3:s=[46,115,110,97,112,115,104,111,116]
  ·have r:wR s=false:=by rw[h3];decide
   have q:_=True:=eq_true h3;simp(config:= { maxSteps:=1000000}) only[f34,eZ,yT,q0,q1,e1,e2,e3,yO,h1,h2,q,r]
  have r:wR s= !hasB s:=by simp[wR,h0,h1,h2,h3,hl]
  cases hb:hasB s with
  | true=>
   rw[hb,if_pos rfl]at lp;rw[hb]at r;simp(config:= { maxSteps:=1000000}) only[f34,eZ,yT,q0,q1,e1,e2,e3,yO,h1,h2,h3,lp,r,Bool.not_true]
  | false=>
   rw[hb,if_neg (by decide)]at lp;rw[hb]at r;simp(config:= { maxSteps:=1000000}) only[f34,eZ,yT,q0,q1,e1,e2,e3,yO,h1,h2,h3,lp,r,Bool.not_false,zND]
 ·have r:wR s=false:=by simp[wR,hl]
  have q1:((32:Nat):Int)< ((s.length:Nat):Int):=by omega
  simp(config:= { maxSteps:=1000000}) only[f34,eZ,yT,q0,q1,r]
theorem zKm (D:Dyn)(n:Nat){H:AH}(s:Str)(hn:s.length<n)(hs:s.length<=1000000000):f47 D n [S s] H=some (.int .u64 ((YP s:Nat):Int),H):=by
 have lp:qT n (zI4 D n) [.int .u64 ((14695981039346656037:Nat):Int),S s, .int .i64 ((0:Nat):Int)] H=some (.exit 0 [.int .u64 ((YP s:Nat):Int)],H):=by
  refine j8 (fun i=>[.int .u64 ((YP (s.take i):Nat):Int),S s, .int .i64 ((i:Nat):Int)]) s.length (fun i hi=> ?_) (fun k=> ?_) n (by omega)
  ·have hl:YP (s.take i)<18446744073709551616:=KT _ _ (by omega);have hx:=xX s .i64 hi;have hc:=(s[i]).toNat_lt;obtain⟨hxor,hxl⟩:=Z2 (a:=YP (s.take i)) (b:=(s[i]).toNat) hl (by omega);have hw:IntKind.wrap .u64 (((s[i]).toNat:Nat):Int)=(((s[i]).toNat:Nat):Int):=by rw[wrap_u64];omega
   have hmul:qO .mul (.int .u64 ((Nat.xor (YP (s.take i)) (s[i]).toNat:Nat):Int)) (.int .u64 ((1099511628211:Nat):Int))=some (.int .u64 ((YP (s.take (i+1)):Nat):Int)):=by
    rw[XF,wrap_u64,zJ hi];have e:YP (s.take i++[s[i]])=Nat.xor (YP (s.take i)) (s[i]).toNat*1099511628211 % 18446744073709551616:=Q2 _ _ _;rw[e,Int.natCast_emod,Int.natCast_mul];rfl
   have hiI:((i:Nat):Int)< ((s.length:Nat):Int):=by omega
   have hi1:((i:Nat):Int)+((1:Nat):Int)=((i+1:Nat):Int):=by omega
   simp(maxSteps:=999999)(disch:=omega) only[zI4,f85,eZ,yT,hiI,hx,hw,hxor,hmul,hi1]
  ·refine qU ?_;simp only[zI4,eZ,yT,zS,zY]
 simp only[f47,f65,eZ,lp,zNn]
theorem zB6 (D:Dyn)(n:Nat){H:AH}(s:Str)(hn:s.length<n)(hs:s.length<=1000000000):f23 D n [S s] H=some (.int .i64 ((yD s:Nat):Int),H):=by
 have hh:=wS s;have hrem:qO .rem (.int .u64 ((YP s:Nat):Int)) (.int .u64 ((1024:Nat):Int))=some (.int .u64 ((yD s:Nat):Int)):=by
  rw[zC7 _ _ _ (by omega),Int.tmod_eq_emod_of_nonneg (by omega)];rfl
 have hw:IntKind.wrap .i64 ((yD s:Nat):Int)=((yD s:Nat):Int):=wrap_i64 (by omega) (by omega);simp only[f23,eZ,zKm D n s hn hs,hrem,zAz,hw]
theorem zCT (x:Nat):j6 (dig x 4)=[.int .u8 ((x / 16777216 % 256:Nat):Int), .int .u8 ((x / 65536 % 256:Nat):Int), .int .u8 ((x / 256 % 256:Nat):Int), .int .u8 ((x % 256:Nat):Int)]:=by
 have h: ∀y:Nat,(UInt8.ofNat (y % 256)).toNat=y % 256:=fun y=>by rw[UInt8.toNat_ofNat'];omega
 simp only[j6,dig,List.map_cons,List.map_nil,h];rw[show(256:Nat) ^ 3=16777216 by decide,show(256:Nat) ^ 2=65536 by decide,Nat.pow_one,Nat.pow_zero,Nat.div_one]
theorem BW (D:Dyn)(n:Nat){H:AH}(hk:H.ok)(x:Nat)(hx:x<2147483648):
  ∃H',f45 D n [.int .i64 ((x:Nat):Int)] H=some (S (dig x 4),H')/\Prs H H':=by
 obtain⟨H1,A,b1,p1,g1,m1,n1⟩:=box hk (.cells (j6 (dig x 4)) 5 1 false);have hcv:zD6 (.slice A 0 4 8) H1=some (S (dig x 4)):=ZK (n:=4) ⟨by simp[kX,yY], .inr (.inr ⟨_,_,_,_,_,_,_,rfl,g1,p1.ok.lt g1,by simp[kX,yY],by
  rw[List.drop_zero,zK (by simp[kX,yY])]⟩)⟩ (by simp)
 have hbv:=zCT x;rw[hbv]at b1;have sh: ∀(s k:Nat),k=2 ^ s->s<=64->qO .shr (.int .i64 ((x:Nat):Int)) (.int .u64 ((s:Nat):Int))=some (.int .i64 ((x / k:Nat):Int)):=fun s k hs h64=>by
  rw[XE _ _ (by omega) (show s<=64 from h64),hs];congr 2
  all_goals(rw[Int.natCast_ediv,Int.natCast_pow];rfl)
 have s1:=sh 24 16777216 (by decide) (by omega);have s2:=sh 16 65536 (by decide) (by omega);have s3:=sh 8 256 (by decide) (by omega);have w: ∀y:Nat,IntKind.wrap .u8 ((y:Nat):Int)=((y % 256:Nat):Int):=fun y=>by rw[wrap_u8];omega
 have bl:wK 5 1 4 [.int .u8 ((0:Nat):Int)] [(0, .int .u8 ((x / 16777216 % 256:Nat):Int)),(1, .int .u8 ((x / 65536 % 256:Nat):Int)),(2, .int .u8 ((x / 256 % 256:Nat):Int)),(3, .int .u8 ((x % 256:Nat):Int))]=some (.cells [.int .u8 ((x / 16777216 % 256:Nat):Int), .int .u8 ((x / 65536 % 256:Nat):Int), .int .u8 ((x / 256 % 256:Nat):Int), .int .u8 ((x % 256:Nat):Int)] 5 1 false,fun A=> .slice A 0 4 8):=rfl;refine⟨H1, ?_,p1⟩;simp(maxSteps:=999999)(disch:=omega) only[f45,eZ,s1,s2,s3,zAz,w,bl,b1,hcv]
end Go.Eng.Sh
end
section
namespace Go.Di
theorem zGp (X:List Re)(r:Re)(d c:Nat):uE (X++[r]) d c=(uE X d c||decide (r.d=d/\r.e.c=c)):=by simp[uE]
def wB (X:List Re)(d h:Nat):Nat:=((List.range 256).find? fun q=> !uE X d (256*h+q+1)).getD 256
theorem JU (X:List Re)(d h:Nat):wB X d h<=256/\(∀q,q<wB X d h->uE X d (256*h+q+1)=true)/\(wB X d h<256->uE X d (256*h+wB X d h+1)=false):=by
 cases hf:(List.range 256).find? fun q=> !uE X d (256*h+q+1)with
 | none=>
  have e:wB X d h=256:=by rw[wB,hf];rfl
  rw[e];refine⟨Nat.le_refl _,fun q hq=> ?_,fun h=>absurd h (by omega)⟩;have:=List.find?_eq_none.1 hf q (List.mem_range.2 hq);simpa using this
 | some p=>
  have e:wB X d h=p:=by rw[wB,hf];rfl
  rw[e];obtain⟨h1,h2,h3⟩:=List.find?_range_eq_some.1 hf;have hp:=List.mem_range.1 h2;refine⟨by omega,fun q hq=> ?_,fun _=>by simpa using h1⟩;have:=h3 q hq;simpa using this
end Go.Di
namespace Go.Eng.Sh
open Go.Nd (Ptr yH qQ Kvs Srt Str)
open Go.Bt Go.Dr Go.Di
theorem zJb {α:Type}(f:α->List AV)(k:Nat)(hf: ∀a,(f a).length=k){H:AH}{v:AV}{l:List α}(h:Rw k H v l.length (l.flatMap f)){i:Nat}(hi:i<l.length): ∃A o,(∀κ (z:Int),z=(i:Int)->jB k v (.int κ z)=some (.ptr A o))/\ ∀j x,(f l[i])[j]? =some x->Eng.ld1 (.ptr A (o+j)) H=some x:=by
 obtain⟨A,o,c,e,sz,g,h1,h2,h3,h4,h5⟩:=Rw.at h hi;rw[zBC f k hf l i hi]at h5;refine⟨A,o,h1,fun j x hx=>QU h2 ?_⟩;have hj:j<k:=by
  rw[<-hf l[i]];exact(List.getElem?_eq_some_iff.1 hx).1
 have:=congrArg (fun x=>x[j]?) h5;rw[hx]at this;simpa[qI hj]using this
def reV (r:Re):List AV:=[.int .i64 ((r.d:Nat):Int), .int .i64 ((r.e.c:Nat):Int), .int .i64 ((r.e.i:Nat):Int),S r.e.n]
def ReR (H:AH)(v:AV)(X:List Re):Prop:=Rw 4 H v X.length (X.flatMap reV)
theorem ReR.at {H:AH}{v:AV}{X:List Re}(h:ReR H v X){i:Nat}(hi:i<X.length): ∃A o,(∀κ (z:Int),z=(i:Int)->jB 4 v (.int κ z)=some (.ptr A o))/\Eng.ld1 (.ptr A (o+0)) H=some (.int .i64 ((X[i].d:Nat):Int))/\Eng.ld1 (.ptr A (o+1)) H=some (.int .i64 ((X[i].e.c:Nat):Int))/\Eng.ld1 (.ptr A (o+2)) H=some (.int .i64 ((X[i].e.i:Nat):Int))/\Eng.ld1 (.ptr A (o+3)) H=some (S X[i].e.n):=by
 obtain⟨A,o,h1,h2⟩:=zJb reV 4 (fun _=>rfl) h hi;exact⟨A,o,h1,h2 0 _ rfl,h2 1 _ rfl,h2 2 _ rfl,h2 3 _ rfl⟩
def atZ (X:List Re)(d:Nat)(nm:Str):Int:=if X.findIdx (vG d nm)<X.length then((X.findIdx (vG d nm):Nat):Int)else Int.negSucc 0
theorem zE8 (D:Dyn)(n:Nat){H:AH}{v:AV}{X:List Re}(h:ReR H v X)(hn:X.length<n)(hX:X.length<=1000000)(d:Nat)(nm:Str):f35 D n [v, .int .i64 ((d:Nat):Int),S nm] H=some (.int .i64 (atZ X d nm),H):=by
 have hk:=List.findIdx_le_length (xs:=X) (p:=vG d nm);have hln:lnSl v=some (.int .i64 ((X.length:Nat):Int)):=h.lnSl;have lp:qT n (zCO D n) [v, .int .i64 ((d:Nat):Int),S nm, .int .i64 ((0:Nat):Int)] H=some (if X.findIdx (vG d nm)<X.length then .ret (.int .i64 ((X.findIdx (vG d nm):Nat):Int))else .exit 0 [],H):=by
  refine j8 (fun i=>[v, .int .i64 ((d:Nat):Int),S nm, .int .i64 ((i:Nat):Int)]) (X.findIdx (vG d nm)) (fun i hi=> ?_) (fun q=> ?_) n (by omega)
  ·have hil:i<X.length:=by omega
   have hiI:((i:Nat):Int)< ((X.length:Nat):Int):=by omega
   have hi1:((i:Nat):Int)+((1:Nat):Int)=((i+1:Nat):Int):=by omega
   obtain⟨A,o,i1,i2,_,_,i5⟩:=h.at hil;have hno:=List.not_of_lt_findIdx hi;by_cases hd:X[i].d=d
   ·have hnn: ¬X[i].e.n=nm:=fun e=>by rw[bX.2 ⟨hd,e⟩]at hno;simp at hno
    have hdI:((X[i].d:Nat):Int)=((d:Nat):Int):=by omega
    simp(maxSteps:=999999)(disch:=omega) only[zCO,eZ,hln,hiI,i1,i2,i5,hdI,yO,hnn,hi1]
   ·have hdI: ¬((X[i].d:Nat):Int)=((d:Nat):Int):=by omega
    simp(maxSteps:=999999)(disch:=omega) only[zCO,eZ,hln,hiI,i1,i2,hdI,hi1]
  ·by_cases hlt:X.findIdx (vG d nm)<X.length
   ·rw[if_pos hlt];obtain⟨A,o,i1,i2,_,_,i5⟩:=h.at hlt;obtain⟨q1,q2⟩:=bX.1 (List.findIdx_getElem (xs:=X) (p:=vG d nm) (w:=hlt));have hiI:((X.findIdx (vG d nm):Nat):Int)< ((X.length:Nat):Int):=by omega
    have hdI:((X[X.findIdx (vG d nm)].d:Nat):Int)=((d:Nat):Int):=by omega
    refine vE ?_;simp(maxSteps:=999999)(disch:=omega) only[zCO,eZ,hln,hiI,i1,i2,i5,hdI,yO,q2]
   ·rw[if_neg hlt,show X.findIdx (vG d nm)=X.length by omega];refine qU ?_;simp(maxSteps:=999999)(disch:=omega) only[zCO,eZ,hln,zS]
 by_cases hlt:X.findIdx (vG d nm)<X.length
 ·rw[if_pos hlt]at lp;simp only[f35,eZ,lp,atZ,if_pos hlt]
 ·rw[if_neg hlt]at lp;simp only[f35,eZ,lp,atZ,if_neg hlt,zNC]
theorem zB7 (D:Dyn)(n:Nat){H:AH}{v:AV}{X:List Re}(h:ReR H v X)(hn:X.length<n)(hX:X.length<=1000000)(d c:Nat)(a2 a3:AV):qT n (zAp D n) [v, .int .i64 ((d:Nat):Int),a2,a3, .int .i64 ((c:Nat):Int), .bool false, .int .i64 ((0:Nat):Int)] H=some (.exit 2 [v, .int .i64 ((d:Nat):Int),a2,a3, .int .i64 ((c:Nat):Int), .bool (uE X d c)],H):=by
 have hln:lnSl v=some (.int .i64 ((X.length:Nat):Int)):=h.lnSl;refine j8 (fun i=>[v, .int .i64 ((d:Nat):Int),a2,a3, .int .i64 ((c:Nat):Int), .bool (uE (X.take i) d c), .int .i64 ((i:Nat):Int)]) X.length (fun i hi=> ?_) (fun q=> ?_) n (by omega)
 ·have hiI:((i:Nat):Int)< ((X.length:Nat):Int):=by omega
  have hi1:((i:Nat):Int)+((1:Nat):Int)=((i+1:Nat):Int):=by omega
  obtain⟨A,o,i1,i2,i3,_,_⟩:=h.at hi;have hs:uE (X.take (i+1)) d c=(uE (X.take i) d c||decide (X[i].d=d/\X[i].e.c=c)):=by rw[zJ hi,zGp]
  rw[hs]
  cases hb:uE (X.take i) d c with
  | true=>
   simp(maxSteps:=999999)(disch:=omega) only[zAp,eZ,hln,hiI,hi1,Bool.true_or]
  | false=>
   by_cases hd:X[i].d=d
   ·have hdI:((X[i].d:Nat):Int)=((d:Nat):Int):=by omega
    by_cases hc:X[i].e.c=c
    ·have hcI:((X[i].e.c:Nat):Int)=((c:Nat):Int):=by omega
     have hr:decide (X[i].d=d/\X[i].e.c=c)=true:=decide_eq_true ⟨hd,hc⟩;simp(maxSteps:=999999)(disch:=omega) only[zAp,eZ,hln,hiI,i1,i2,i3,hdI,hcI,hi1,hr,Bool.false_or]
    ·have hcI: ¬((X[i].e.c:Nat):Int)=((c:Nat):Int):=by omega
     have hr:decide (X[i].d=d/\X[i].e.c=c)=false:=decide_eq_false fun e=>hc e.2
     simp(maxSteps:=999999)(disch:=omega) only[zAp,eZ,hln,hiI,i1,i2,i3,hdI,hcI,hi1,hr,Bool.false_or]
   ·have hdI: ¬((X[i].d:Nat):Int)=((d:Nat):Int):=by omega
    have hr:decide (X[i].d=d/\X[i].e.c=c)=false:=decide_eq_false fun e=>hd e.1
    simp(maxSteps:=999999)(disch:=omega) only[zAp,eZ,hln,hiI,i1,i2,hdI,hi1,hr,Bool.false_or]
 ·refine qU ?_;simp(maxSteps:=999999)(disch:=omega) only[zAp,eZ,hln,zS,zY]
theorem zHe (D:Dyn)(n:Nat)(hn0:300<=n){H:AH}{v:AV}{X:List Re}(h:ReR H v X)(hn:X.length<n)(hX:X.length<=1000000)(d hh:Nat)(hh9:hh<1024):f36 D n [v, .int .i64 ((d:Nat):Int), .int .i64 ((hh:Nat):Int)] H=some (.int .i64 ((if wB X d hh<256 then 256*hh+wB X d hh+1 else 0:Nat):Int),H):=by
 obtain⟨p1,p2,p3⟩:=JU X d hh;have m1:((256:Nat):Int)*((hh:Nat):Int)=((256*hh:Nat):Int):=by omega
 have a1: ∀q:Nat,((256*hh:Nat):Int)+((q:Nat):Int)=((256*hh+q:Nat):Int):=fun q=>by omega
 have a2: ∀q:Nat,((256*hh+q:Nat):Int)+((1:Nat):Int)=((256*hh+q+1:Nat):Int):=fun q=>by omega
 have lp:qT n (zFy D n) [v, .int .i64 ((d:Nat):Int), .int .i64 ((hh:Nat):Int), .int .i64 ((0:Nat):Int)] H=some (if wB X d hh<256 then .ret (.int .i64 ((256*hh+wB X d hh+1:Nat):Int))else .exit 0 [],H):=by
  refine j8 (fun i=>[v, .int .i64 ((d:Nat):Int), .int .i64 ((hh:Nat):Int), .int .i64 ((i:Nat):Int)]) (wB X d hh) (fun i hi=> ?_) (fun q=> ?_) n (by omega)
  ·have hiI:((i:Nat):Int)< ((256:Nat):Int):=by omega
   have hi1:((i:Nat):Int)+((1:Nat):Int)=((i+1:Nat):Int):=by omega
   have hin:=zB7 D n h hn hX d (256*hh+i+1) (.int .i64 ((hh:Nat):Int)) (.int .i64 ((i:Nat):Int));rw[p2 i hi]at hin;simp(maxSteps:=999999)(disch:=omega) only[zFy,eZ,hiI,m1,a1,a2,hin,zLi,hi1]
  ·by_cases hlt:wB X d hh<256
   ·rw[if_pos hlt];have hiI:((wB X d hh:Nat):Int)< ((256:Nat):Int):=by omega
    have hin:=zB7 D n h hn hX d (256*hh+wB X d hh+1) (.int .i64 ((hh:Nat):Int)) (.int .i64 ((wB X d hh:Nat):Int));rw[p3 hlt]at hin;refine vE ?_;simp(maxSteps:=999999)(disch:=omega) only[zFy,eZ,hiI,m1,a1,a2,hin,zLi]
   ·rw[if_neg hlt];have hiI: ¬((wB X d hh:Nat):Int)< ((256:Nat):Int):=by omega
    refine qU ?_;simp(maxSteps:=999999)(disch:=omega) only[zFy,eZ,hiI]
 by_cases hlt:wB X d hh<256
 ·rw[if_pos hlt]at lp;simp only[f36,eZ,lp,if_pos hlt]
 ·rw[if_neg hlt]at lp;simp only[f36,eZ,lp,if_neg hlt,zNB]
end Go.Eng.Sh
end
section
namespace Go.Di
open Go.Nd (Str Kvs putP delP lookP Srt mayK)
open Go.Dr
open Go.Eng.Sh (cO XK aG YX zCQ WW)
def XT (d:Nat)(nm:Str)(ino:Int)(X:List Re):Nat×Nat×List Re:=
 if 1<=ino/\ino<=2147483647 then
  if wR nm=true then
   if X.findIdx (vG d nm)<X.length then(0,6,X)else
    if wB X d (yD nm)<256 then(256*yD nm+wB X d (yD nm)+1,0,X++[⟨d,⟨256*yD nm+wB X d (yD nm)+1,ino.toNat,nm⟩⟩])else(0,3,X)
  else(0,56,X)
 else(0,1,X)
theorem WV {X:List Re}{d:Nat}{nm:Str} :(X.findIdx (vG d nm)<X.length/\ ∃h:X.findIdx (vG d nm)<X.length,X.find? (vG d nm)=some X[X.findIdx (vG d nm)])\/(¬X.findIdx (vG d nm)<X.length/\X.find? (vG d nm)=none):=by
 by_cases h:X.findIdx (vG d nm)<X.length
 ·refine .inl ⟨h,h, ?_⟩;rw[List.find?_eq_some_iff_getElem];exact⟨List.findIdx_getElem,_,h,rfl,fun j hj=>by have:=List.not_of_lt_findIdx hj;simp[this]⟩
 ·refine .inr ⟨h, ?_⟩;rw[List.find?_eq_none];intro r hr he;exact h (List.findIdx_lt_length.2 ⟨r,hr,he⟩)
theorem DP.add2 {kv:Kvs}{X:List Re}(p:DP kv X){d:Nat}(h1:1<=d)(h2:d<2147483648)(nm:Str)(ino:Int):(cO d nm ino kv).1=(XT d nm ino X).1/\(cO d nm ino kv).2.1=(XT d nm ino X).2.1/\DP (cO d nm ino kv).2.2 (XT d nm ino X).2.2/\(XT d nm ino X).2.2.length<=X.length+1/\(cO d nm ino kv).2.2.length<=kv.length+1:=by
 have hh:=wS nm;have hf:=p.find h2 nm;have hp:=p.placeF (d:=d) h2 hh;obtain⟨q1,q2,q3⟩:=JU X d (yD nm);rw[cO,XT];by_cases hi:1<=ino/\ino<=2147483647
 ·rw[if_pos hi,if_pos hi];by_cases hm:wR nm=true
  ·rw[if_pos hm,if_pos hm];rcases WV (X:=X) (d:=d) (nm:=nm)with⟨a1,_,a2⟩ | ⟨a1,a2⟩
   ·rw[if_pos a1,if_pos (by rw[hf,a2];rfl)];exact⟨rfl,rfl,p,by simp,by simp⟩
   ·rw[if_neg a1,if_neg (by rw[hf,a2];decide),hp]
    cases hr:(List.range 256).find? fun q=> !uE X d (256*yD nm+q+1)with
    | none=>
     have:wB X d (yD nm)=256:=by rw[wB,hr];rfl
     rw[if_neg (by omega)];exact⟨rfl,rfl,p,by simp,by simp⟩
    | some g=>
     have hg:wB X d (yD nm)=g:=by rw[wB,hr];rfl
     have hg2:=List.mem_range.1 (List.mem_of_find?_eq_some hr);rw[hg]at q3⊢;rw[if_pos hg2];have hc:yD nm*256+g+1=256*yD nm+g+1:=by omega
     have he:(⟨256*yD nm+g+1,ino.toNat,nm⟩:En).fine:=⟨by simp only;omega,by simp only;omega,by simp only;omega,by simp only;omega,hm,by simp only;omega⟩;simp only[hc];refine⟨trivial,trivial,p.add h1 h2 he a2 fun r hr' hb=> ?_,by simp, ?_⟩
     ·have:=q3 hg2;have:uE X d (256*yD nm+g+1)=true:=zC5.2 ⟨r,hr',hb⟩;rw[q3 hg2]at this;cases this
     ·have:=Nd.len_put (yG d (256*yD nm+g+1)) (vR ⟨256*yD nm+g+1,ino.toNat,nm⟩) p.srt;rw[this];split<;>omega
  ·rw[if_neg hm,if_neg hm];exact⟨rfl,rfl,p,by simp,by simp⟩
 ·rw[if_neg hi,if_neg hi];exact⟨rfl,rfl,p,by simp,by simp⟩
def uC (d:Nat)(nm:Str)(X:List Re):Option En:=bif wR nm then(if h:X.findIdx (vG d nm)<X.length then some X[X.findIdx (vG d nm)].e else none)else none
def Y7 (d:Nat)(nm:Str)(X:List Re):List Re:=bif wR nm then(if X.findIdx (vG d nm)<X.length then X.take (X.findIdx (vG d nm))++X.drop (X.findIdx (vG d nm)+1)else X)else X
theorem DP.here {kv:Kvs}{X:List Re}(p:DP kv X){d:Nat}(h2:d<2147483648)(nm:Str):aG d nm kv=uC d nm X:=by
 rw[aG,uC,p.find h2]
 cases wR nm with
 | false=>rfl
 | true=>
  rcases WV (X:=X) (d:=d) (nm:=nm)with⟨a1,_,a2⟩ | ⟨a1,a2⟩
  ·rw[a2,dif_pos a1];rfl
  ·rw[a2,dif_neg a1];rfl
theorem DP.drop2 {kv:Kvs}{X:List Re}(p:DP kv X){d:Nat}(h2:d<2147483648)(nm:Str):DP (YX d nm kv) (Y7 d nm X)/\(Y7 d nm X).length<=X.length/\(YX d nm kv).length<=kv.length:=by
 rw[YX,p.here h2,uC,Y7]
 cases wR nm with
 | false=>exact⟨p,Nat.le_refl _,Nat.le_refl _⟩
 | true=>
  simp only[cond_true];rcases WV (X:=X) (d:=d) (nm:=nm)with⟨a1,_,a2⟩ | ⟨a1,a2⟩
  ·rw[dif_pos a1,if_pos a1];have hd:X[X.findIdx (vG d nm)].d=d:=(bX.1 (List.findIdx_getElem (xs:=X) (p:=vG d nm) (w:=a1))).1;have:=p.del a1;rw[hd]at this;exact⟨this,by simp;omega,zJQ _ _⟩
  ·rw[dif_neg a1,if_neg a1];exact⟨p,Nat.le_refl _,Nat.le_refl _⟩
end Go.Di
namespace Go.Eng.Sh
open Go.Nd (Ptr yH qQ Kvs Srt Str)
open Go.Bt Go.Dr Go.Di
def ReG (H:AH)(v:AV)(X:List Re):Prop:=yN 4 79 H v X.length (X.flatMap reV)
theorem zAF {X:List Re}{d:Nat}{nm:Str}(h:X.findIdx (vG d nm)<X.length):atZ X d nm=((X.findIdx (vG d nm):Nat):Int):=if_pos h
theorem zJR {X:List Re}{d:Nat}{nm:Str}(h: ¬X.findIdx (vG d nm)<X.length):atZ X d nm=Int.negSucc 0:=if_neg h
theorem zMD:Int.negSucc 0< ((0:Nat):Int):=by decide
theorem zJf: ¬((0:Nat):Int)<=Int.negSucc 0:=by decide
theorem VJ (D:Dyn)(n:Nat){H:AH}{v:AV}{z:Int}(h:okN z=false)(nm:Str):f13 D n [v, .int .i64 z,S nm] H=some (.tuple [.int .i64 ((0:Nat):Int), .int .i64 ((0:Nat):Int), .int .i64 ((1:Nat):Int)],H):=by
 have c1:=xR D n (H:=H) z;rw[h]at c1;simp(maxSteps:=999999)(disch:=omega) only[f13,eZ,c1]
theorem zB8 (D:Dyn)(n:Nat){H:AH}{v:AV}{X:List Re}(hr:ReR H v X)(hn:X.length<n)(hX:X.length<=1000000){d:Nat}(h1:1<=d)(h2:d<=2147483647)(nm:Str)(hnm:nm.length<n)(hnm9:nm.length<=1000000):
  f13 D n [v, .int .i64 ((d:Nat):Int),S nm] H=some (.tuple (match uC d nm X with
   | some e=>[.int .i64 ((e.i:Nat):Int), .int .i64 ((e.c:Nat):Int), .int .i64 ((0:Nat):Int)]
   | none=>[.int .i64 ((0:Nat):Int), .int .i64 ((0:Nat):Int), .int .i64 ((bif wR nm then 5 else 56:Nat):Int)]),H):=by
 have c1:=xR D n (H:=H) ((d:Nat):Int);rw[xS.2 (by omega)]at c1;have c2:=zDZ D n (H:=H) nm hnm (by omega);have c3:=zE8 D n hr hn hX d nm
 cases hm:wR nm with
 | false=>
  rw[hm]at c2;simp(maxSteps:=999999)(disch:=omega) only[f13,eZ,c1,c2,uC,hm,cond_false]
 | true=>
  rw[hm]at c2;by_cases hlt:X.findIdx (vG d nm)<X.length
  ·rw[zAF hlt]at c3;obtain⟨A,o,i1,_,i3,i4,_⟩:=hr.at hlt;have hge: ¬((X.findIdx (vG d nm):Nat):Int)< ((0:Nat):Int):=by omega
   simp(maxSteps:=999999)(disch:=omega) only[f13,eZ,c1,c2,c3,hge,i1,i3,i4,uC,hm,cond_true,dif_pos hlt]
  ·rw[zJR hlt]at c3;simp(maxSteps:=999999)(disch:=omega) only[f13,eZ,c1,c2,c3,zMD,uC,hm,cond_true,dif_neg hlt]
theorem zHh (D:Dyn)(n:Nat){H:AH}{v:AV}{z:Int}(h:okN z=false)(nm:Str)(ino:Int):f9 D n [v, .int .i64 z,S nm, .int .i64 ino] H=some (.tuple [v, .int .i64 ((0:Nat):Int), .int .i64 ((1:Nat):Int)],H):=by
 have c1:=xR D n (H:=H) z;rw[h]at c1;simp(maxSteps:=999999)(disch:=omega) only[f9,eZ,c1]
theorem zKu (D:Dyn)(n:Nat)(hn0:300<=n){H:AH}(hk:H.ok){v:AV}{X:List Re}(hg:ReG H v X)(hn:X.length<n)(hX:X.length<=1000000){d:Nat}(h1:1<=d)(h2:d<=2147483647)(nm:Str)(hnm:nm.length<n)(hnm9:nm.length<=1000000)(ino:Int):
  ∃H' v',f9 D n [v, .int .i64 ((d:Nat):Int),S nm, .int .i64 ino] H=some (.tuple [v', .int .i64 (((XT d nm ino X).1:Nat):Int), .int .i64 (((XT d nm ino X).2.1:Nat):Int)],H')/\Prs H H'/\ReG H' v' (XT d nm ino X).2.2/\ ∀B,Blk v' B->Blk v B\/H.next<=B:=by
 have hr:ReR H v X:=yN.row hg;have c1:=xR D n (H:=H) ((d:Nat):Int);rw[xS.2 (by omega)]at c1;have c2:=zDZ D n (H:=H) nm hnm (by omega);have c3:=zE8 D n hr hn hX d nm;have c4:=zB6 D n (H:=H) nm hnm (by omega);have c5:=xR D n (H:=H) ino;have c6:=zHe D n hn0 hr hn hX d (yD nm) (wS nm);have hh:=wS nm;by_cases hi:1<=ino/\ino<=2147483647
 ·rw[xS.2 hi]at c5
  cases hm:wR nm with
  | false=>
   rw[hm]at c2;have ea:XT d nm ino X=(0,56,X):=by rw[XT,if_pos hi,if_neg (by rw[hm];decide)]
   rw[ea];refine⟨H,v, ?_,Stp.refl hk,hg,fun B hB=> .inl hB⟩;simp(maxSteps:=999999)(disch:=omega) only[f9,eZ,c1,c5,c2]
  | true=>
   rw[hm]at c2;by_cases hlt:X.findIdx (vG d nm)<X.length
   ·rw[zAF hlt]at c3;have hge:((0:Nat):Int)<=((X.findIdx (vG d nm):Nat):Int):=by omega
    have ea:XT d nm ino X=(0,6,X):=by rw[XT,if_pos hi,if_pos hm,if_pos hlt]
    rw[ea];refine⟨H,v, ?_,Stp.refl hk,hg,fun B hB=> .inl hB⟩;simp(maxSteps:=999999)(disch:=omega) only[f9,eZ,c1,c5,c2,c3,hge]
   ·rw[zJR hlt]at c3;by_cases hf:wB X d (yD nm)<256
    ·rw[if_pos hf]at c6;obtain⟨c,hc⟩: ∃c,c=256*yD nm+wB X d (yD nm)+1:=⟨_,rfl⟩;rw[<-hc]at c6;obtain⟨r,hre⟩: ∃r:Re,r=⟨d,⟨c,ino.toNat,nm⟩⟩:=⟨_,rfl⟩;have ea:XT d nm ino X=(c,0,X++[r]):=by rw[XT,if_pos hi,if_pos hm,if_neg hlt,if_pos hf,hre,hc]
     rw[ea];obtain⟨H1,A1,b1,p1,g1,m1,n1⟩:=box hk (.cells [] 79 4 false);have G1:yN 4 79 H1 (.slice A1 0 0 0) 0 []:= .inr ⟨by simp,A1,79,false,rfl,n1,g1⟩;have hr1:ReR H1 v X:=Rw.stp hr p1 fun _ _ x=>x
     obtain⟨w1,H2,e2,G2,s2,f2⟩:=G1.app (bytes:=40) p1.ok (by decide) (Rw.srcOf hr1) (Rw.len hr1) (zF6 reV (fun _=>rfl) _) (by omega) (by decide);have N1:=p1.next;have N2:=s2.next
     have P2:Prs H H2:=p1.fresh s2 (fun B hB=>by rw[Blk.slice.1 hB];exact m1);obtain⟨H3,A2,b3,p3,g3,m3,n3⟩:=box s2.ok (.cells (reV r) 79 4 false);have hsrc:srcOf 4 (.slice A2 0 1 2) H3=some (1,reV r):=by simp only[srcOf,g3];rfl
     obtain⟨w2,H4,e4,G4,s4,f4⟩:=yN.app (bytes:=40) (m:=1) p3.ok (by decide) (yN.mono G2 p3 fun _ _ x=>x) hsrc rfl rfl (by omega) (by decide);have fw1: ∀B,Blk w1 B->H.next<=B:=fun B hB=>by
      rcases f2 B hB with e | e
      ·rw[Blk.slice.1 e];exact m1
      ·omega
     have N3:=p3.next
     refine⟨H4,w2, ?_,(P2.trans p3).fresh s4 fw1, ?_,fun B hB=> ?_⟩
     ·have hS:(AV.str 0 0)=S []:=rfl;have bl0:wK 79 4 0 [.int .i64 ((0:Nat):Int), .int .i64 ((0:Nat):Int), .int .i64 ((0:Nat):Int),S []] []=some (.cells [] 79 4 false,fun A=> .slice A 0 0 0):=rfl;have bs:jT [(0,1),(1,1),(2,1),(3,1)] [.int .i64 ((0:Nat):Int), .int .i64 ((0:Nat):Int), .int .i64 ((0:Nat):Int),S []] [(0, .int .i64 ((d:Nat):Int)),(1, .int .i64 ((c:Nat):Int)),(2, .int .i64 ino),(3,S nm)]=some (.agg [.int .i64 ((d:Nat):Int), .int .i64 ((c:Nat):Int), .int .i64 ino,S nm]):=rfl;have hrv:reV r=[.int .i64 ((d:Nat):Int), .int .i64 ((c:Nat):Int), .int .i64 ino,S nm]:=by
       rw[hre];have:((ino.toNat:Nat):Int)=ino:=by omega
       simp only[reV,this]
      rw[hrv]at b3;have bl1:wK 79 4 1 [.int .i64 ((0:Nat):Int), .int .i64 ((0:Nat):Int), .int .i64 ((0:Nat):Int),S []] [(0, .agg [.int .i64 ((d:Nat):Int), .int .i64 ((c:Nat):Int), .int .i64 ino,S nm])]=some (.cells [.int .i64 ((d:Nat):Int), .int .i64 ((c:Nat):Int), .int .i64 ino,S nm] 79 4 false,fun A=> .slice A 0 1 2):=rfl;have hc0: ¬((c:Nat):Int)=((0:Nat):Int):=by omega
      simp(maxSteps:=999999)(disch:=omega) only[f9,eZ,c1,c5,c2,c3,zJf,c4,c6,hc0,hS,bl0,b1,e2,bs,bl1,b3,e4]
     ·show yN 4 _ _ w2 _ _;have e1:(X++[r]).length=0+X.length+1:=by simp
      have e2:(X++[r]).flatMap reV=[]++X.flatMap reV++reV r:=by simp
      rw[e1,e2];exact G4
     ·rcases f4 B hB with e | e
      ·exact .inr (fw1 B e)
      ·exact .inr (by omega)
    ·rw[if_neg hf]at c6;have ea:XT d nm ino X=(0,3,X):=by rw[XT,if_pos hi,if_pos hm,if_neg hlt,if_neg hf]
     rw[ea];refine⟨H,v, ?_,Stp.refl hk,hg,fun B hB=> .inl hB⟩;simp(maxSteps:=999999)(disch:=omega) only[f9,eZ,c1,c5,c2,c3,zJf,c4,c6]
 ·have hno:okN ino=false:=by
   cases h:okN ino with
   | false=>rfl
   | true=>exact absurd (xS.1 h) hi
  rw[hno]at c5;have ea:XT d nm ino X=(0,1,X):=by rw[XT,if_neg hi]
  rw[ea];refine⟨H,v, ?_,Stp.refl hk,hg,fun B hB=> .inl hB⟩;simp(maxSteps:=999999)(disch:=omega) only[f9,eZ,c1,c5]
theorem zE5 (D:Dyn)(n:Nat){H:AH}{v:AV}{z:Int}(h:okN z=false)(nm:Str):f11 D n [v, .int .i64 z,S nm] H=some (.tuple [v, .int .i64 ((0:Nat):Int), .int .i64 ((1:Nat):Int)],H):=by
 have c1:=VJ D n (H:=H) (v:=v) h nm;have t1:((1:Nat):Int)≠((0:Nat):Int):=by omega
 simp(maxSteps:=999999)(disch:=omega) only[f11,eZ,c1,qL,nth,ne_eq,t1,not_false_eq_true]
theorem zHf (D:Dyn)(n:Nat)(hn0:300<=n){H:AH}(hk:H.ok){v:AV}{X:List Re}(hg:ReG H v X)(hn:X.length<n)(hX:X.length<=1000000){d:Nat}(h1:1<=d)(h2:d<=2147483647)(nm:Str)(hnm:nm.length<n)(hnm9:nm.length<=1000000):
  ∃H' v',f11 D n [v, .int .i64 ((d:Nat):Int),S nm] H=some (.tuple (v'::(match uC d nm X with
   | some e=>[.int .i64 ((e.i:Nat):Int), .int .i64 ((0:Nat):Int)]
   | none=>[.int .i64 ((0:Nat):Int), .int .i64 ((bif wR nm then 5 else 56:Nat):Int)])),H')/\Prs H H'/\ReG H' v' (Y7 d nm X)/\ ∀B,Blk v' B->Blk v B\/H.next<=B:=by
 have hr:ReR H v X:=yN.row hg;have c1:=zB8 D n hr hn hX h1 h2 nm hnm hnm9;have c3:=zE8 D n hr hn hX d nm;have t00: ¬(((0:Nat):Int)≠((0:Nat):Int)):=by omega
 cases hm:wR nm with
 | false=>
  have he:uC d nm X=none:=by rw[uC,hm];rfl
  have hd:Y7 d nm X=X:=by rw[Y7,hm];rfl
  rw[he,hm]at c1;rw[he,hd];simp only[cond_false]at c1⊢;have t56:((56:Nat):Int)≠((0:Nat):Int):=by omega
  refine⟨H,v, ?_,Stp.refl hk,hg,fun B hB=> .inl hB⟩;simp(maxSteps:=999999)(disch:=omega) only[f11,eZ,c1,qL,nth,ne_eq,t56,not_false_eq_true]
 | true=>
  by_cases hlt:X.findIdx (vG d nm)<X.length
  ·have he:uC d nm X=some X[X.findIdx (vG d nm)].e:=by rw[uC,hm,cond_true,dif_pos hlt]
   have hd:Y7 d nm X=X.take (X.findIdx (vG d nm))++X.drop (X.findIdx (vG d nm)+1):=by rw[Y7,hm,cond_true,if_pos hlt]
   rw[he]at c1;rw[he,hd];rw[zAF hlt]at c3;simp only at c1⊢;obtain⟨j,hj⟩: ∃j,j=X.findIdx (vG d nm):=⟨_,rfl⟩;simp only[<-hj]at c1 c3 hlt⊢;obtain⟨H1,A1,r1,r2,w1,H2,w2,H3,b1,d1,d2,e2,d3,e3,P3,G3,f3⟩:=delG (f:=reV) (bytes:=40) (fun _=>rfl) (fun _=>rfl) (by decide) (by decide) hk hg hlt (by omega);refine⟨H3,w2, ?_,P3,G3,fun B hB=> .inr (f3 B hB)⟩;have hS:(AV.str 0 0)=S []:=rfl;have bl0:wK 79 4 0 [.int .i64 ((0:Nat):Int), .int .i64 ((0:Nat):Int), .int .i64 ((0:Nat):Int),S []] []=some (.cells [] 79 4 false,fun A=> .slice A 0 0 0):=rfl;have hge: ¬((j:Nat):Int)< ((0:Nat):Int):=by omega
   have hj1:((j:Nat):Int)+((1:Nat):Int)=((j+1:Nat):Int):=by omega
   simp(maxSteps:=999999)(disch:=omega) only[f11,eZ,c1,qL,nth,t00,c3,hge,hS,bl0,b1,d1,hj1,d2,e2,d3,e3]
  ·have he:uC d nm X=none:=by rw[uC,hm,cond_true,dif_neg hlt]
   have hd:Y7 d nm X=X:=by rw[Y7,hm,cond_true,if_neg hlt]
   rw[he,hm]at c1;rw[he,hd];simp only[cond_true]at c1⊢;have t5:((5:Nat):Int)≠((0:Nat):Int):=by omega
   refine⟨H,v, ?_,Stp.refl hk,hg,fun B hB=> .inl hB⟩;simp(maxSteps:=999999)(disch:=omega) only[f11,eZ,c1,qL,nth,ne_eq,t5,not_false_eq_true]
end Go.Eng.Sh
end
section
namespace Go.Di
open Go.Nd (Str Kvs putP delP lookP Srt mayK)
open Go.Eng (ltS)
open Go.Dr
theorem zER (k v:Str): ∀l:Kvs,(∀q∈l,q.1≠k)->l.take (l.findIdx fun p=> !ltS p.1 k)++(k,v)::l.drop (l.findIdx fun p=> !ltS p.1 k)=putP k v l
 | [],_=>rfl
 | (a,b)::l,h=>by
  have ih:=zER k v l fun q hq=>h q (zA _ hq)
  have ha: ¬a=k:=h (a,b) (zB ..);simp only[putP,if_neg ha]
  cases hl:ltS a k with
  | true=>
   have:((a,b)::l).findIdx (fun p=> !ltS p.1 k)=(l.findIdx fun p=> !ltS p.1 k)+1:=by rw[List.findIdx_cons];simp[hl]
   rw[this,List.take_succ_cons,List.drop_succ_cons,List.cons_append,ih];rfl
  | false=>
   have:((a,b)::l).findIdx (fun p=> !ltS p.1 k)=0:=by rw[List.findIdx_cons];simp[hl]
   rw[this];rfl
end Go.Di
namespace Go.Eng
theorem chkI (κ:IntKind)(z:Int)(K:Rs):chk (some (.int κ z)) (.int κ z) K=K:=j9 rfl (by simp[aveq,kF,kG])
theorem ZG {H H':AH}(hk:H.ok)(P:Prs H H'){A j:Nat}{x:AV}(h:ld1 (.ptr A j) H=some x):ld1 (.ptr A j) H'=some x:=by
 cases hg:H.h.get A with
 | none=>simp[ld1,hg]at h
 | some o=>rw[P.ld1 j (hk.lt hg) (fun x=>x)];exact h
end Go.Eng
namespace Go.Eng.Sh
open Go.Nd (Ptr yH qQ Kvs Srt Str)
open Go.Bt Go.Dr Go.Di
theorem zEg (p:Str×Str):qP (prV p)=true:=rfl
theorem zKr (D:Dyn)(n:Nat){H:AH}(hk:H.ok){v:AV}{l:Kvs}(h:XU H v l)(hl:l.length<=1000000)(hn:l.length<n)(key:Str):
  ∃H' v',f63 D n [v,S key] H=some (v',H')/\Prs H H'/\PrG H' v' (l.filter fun p=>decide (p.1≠key))/\ ∀B,Blk v' B->H.next<=B:=by
 have hln:lnSl v=some (.int .i64 ((l.length:Nat):Int)):=Rw.lnSl h;have lp:=kI (b:=zCM D n) l.length (fun i us H'=> ∃w,us=[v,S key,w, .int .i64 ((i:Nat):Int)]/\Prs H H'/\PrG H' w ((l.take i).filter fun p=>decide (p.1≠key))/\ ∀B,Blk w B->H.next<=B) (fun i us H' hi ⟨w,hus,P,g,f⟩=>by
  subst hus;have h':XU H' v l:=Rw.stp h P fun _ _ x=>x
  obtain⟨A,o,i1,i2,i3,_⟩:=h'.at hi;have i3':Eng.ld1 (.ptr A (o+0)) H'=some (S l[i].1):=i3;have hiI:((i:Nat):Int)< ((l.length:Nat):Int):=by omega
  have hi1:((i:Nat):Int)+((1:Nat):Int)=((i+1:Nat):Int):=by omega
  have hts:l.take (i+1)=l.take i++[l[i]]:=zJ hi;by_cases hne:l[i].1≠key
  ·have hq:(l.take (i+1)).filter (fun p=>decide (p.1≠key))=(l.take i).filter (fun p=>decide (p.1≠key))++[l[i]]:=by rw[hts,List.filter_append,List.filter_cons_of_pos (by simpa using hne)];rfl
   have hlen:=List.length_filter_le (fun p=>decide (p.1≠key)) (l.take i);rw[zG]at hlen;obtain⟨H1,A2,b1,p1,g1,m1,n1⟩:=box P.ok (.cells (prV l[i]) 85 2 false);have hsrc:srcOf 2 (.slice A2 0 1 2) H1=some (1,prV l[i]):=by simp only[srcOf,g1];rfl
   obtain⟨w',H2,e2,gw2,s2,f2⟩:=yN.app (bytes:=32) (m:=1) p1.ok (by decide) (yN.mono g.1 p1 fun _ _ x=>x) hsrc rfl rfl (by omega) (by decide);have N:=P.next;have N1:=p1.next
   have bl1:wK 85 2 1 [S [],S []] [(0, .agg (prV l[i]))]=some (.cells (prV l[i]) 85 2 false,fun A=> .slice A 0 1 2):=rfl;have hS:(AV.str 0 0)=S []:=rfl;refine⟨_,H2, ?_,w',rfl,(P.trans p1).fresh s2 f,⟨?_,fun e=> ?_⟩,fun B hB=> ?_⟩
   ·simp(maxSteps:=999999)(disch:=omega) only[zCM,zLb,eZ,hln,hiI,i1,i3',xI,hne,ne_eq,not_false_eq_true,i2,hS,bl1,b1,e2,hi1]
   ·rw[hq,zI,qD];have e1:[l[i]].flatMap prV=prV l[i]:=by simp
    rw[e1];exact gw2
   ·rw[hq]at e;simp at e
   ·rcases f2 B hB with e | e
    ·exact f B e
    ·omega
  ·have hq:(l.take (i+1)).filter (fun p=>decide (p.1≠key))=(l.take i).filter (fun p=>decide (p.1≠key)):=by rw[hts,List.filter_append,List.filter_cons_of_neg (by simpa using hne)];simp
   refine⟨_,H', ?_,w,rfl,P,by rw[hq];exact g,f⟩;simp(maxSteps:=999999)(disch:=omega) only[zCM,zLb,eZ,hln,hiI,i1,i3',xI,hne,hi1]) n _ H ⟨.nilSlice,rfl,Stp.refl hk,⟨.inl (Own.nil ..),fun _=>rfl⟩,fun B hB=>(Blk.nil.1 hB).elim⟩ (by omega)
 obtain⟨q,us,H5,e5,w,rfl,P5,g5,f5⟩:=lp;rw[zY]at g5;refine⟨H5,w, ?_,P5,g5,f5⟩;have last:qT (q+1) (zCM D n) [v,S key,w, .int .i64 ((l.length:Nat):Int)] H5=some (.exit 0 [w],H5):=qU (by simp only[zCM,eZ,hln,zS]);simp(maxSteps:=999999)(disch:=omega) only[f63,eZ,e5,last,zNp]
theorem zKn (D:Dyn)(n:Nat){H:AH}(hk:H.ok){v:AV}{l:Kvs}(h:XU H v l)(hl:l.length<=1000000)(hn:l.length<n)(key x:Str)(hno: ∀q∈l,q.1≠key):
  ∃H' v',f44 D n [v,S key,S x] H=some (v',H')/\Prs H H'/\PrG H' v' (Nd.putP key x l)/\ ∀B,Blk v' B->H.next<=B:=by
 obtain⟨H1,w,e1,p1,g1,f1⟩:=zKr D n hk h hl hn key;rw[List.filter_eq_self.2 (fun q hq=>decide_eq_true (hno q hq))]at g1;have N1:=p1.next
 have hr:XU H1 w l:=g1.row;have hln:lnSl w=some (.int .i64 ((l.length:Nat):Int)):=Rw.lnSl hr;obtain⟨K,hK⟩: ∃K,K=l.findIdx fun p=> !ltS p.1 key:=⟨_,rfl⟩
 have hKl:K<=l.length:=by rw[hK];exact List.findIdx_le_length
 have lp:qT n (zFs D n) [w,S key,S x, .int .i64 ((0:Nat):Int)] H1=some (.exit 0 [w,S key,S x, .int .i64 ((K:Nat):Int)],H1):=by
  refine j8 (fun i=>[w,S key,S x, .int .i64 ((i:Nat):Int)]) K (fun i hi=> ?_) (fun q=> ?_) n (by omega)
  ·have hil:i<l.length:=by omega
   obtain⟨A,o,i1,_,i3,_⟩:=hr.at hil;have i3':Eng.ld1 (.ptr A (o+0)) H1=some (S l[i].1):=i3;have hiI:((i:Nat):Int)< ((l.length:Nat):Int):=by omega
   have hi1:((i:Nat):Int)+((1:Nat):Int)=((i+1:Nat):Int):=by omega
   have hlt:ltS l[i].1 key=true:=by
    rw[hK]at hi;have:=List.not_of_lt_findIdx hi;simpa using this
   simp(maxSteps:=999999)(disch:=omega) only[zFs,eZ,hln,hiI,i1,i3',cD,hlt,hi1]
  ·refine qU ?_;by_cases hlt:K<l.length
   ·obtain⟨A,o,i1,_,i3,_⟩:=hr.at hlt;have i3':Eng.ld1 (.ptr A (o+0)) H1=some (S l[K].1):=i3;have hiI:((K:Nat):Int)< ((l.length:Nat):Int):=by omega
    have hl9:ltS l[K].1 key=false:=by
     subst hK;have:=List.findIdx_getElem (xs:=l) (p:=fun p=> !ltS p.1 key) (w:=hlt);simpa using this
    simp(maxSteps:=999999)(disch:=omega) only[zFs,eZ,hln,hiI,i1,i3',cD,hl9]
   ·have hiI: ¬((K:Nat):Int)< ((l.length:Nat):Int):=by omega
    simp(maxSteps:=999999)(disch:=omega) only[zFs,eZ,hln,hiI]
 obtain⟨H2,A1,r1,w1,H3,A2,H4,w2,H5,r2,w3,H6,b2,c2,e3,b4,e5,c5,e6,P3,P6,G6,f6⟩:=insG (f:=prV) (e:=85) (k:=2) (bytes:=32) (fun _=>rfl) zEg (by decide) (by decide) p1.ok g1.1 g1.2 hKl (by omega) (key,x);have hput:=zER key x l hno;rw[<-hK]at hput;rw[hput]at G6;refine⟨H6,w3, ?_,p1.trans P6,⟨G6,fun e=> ?_⟩,fun B hB=>by have:=f6 B hB;omega⟩
 ·have hS:(AV.str 0 0)=S []:=rfl;have bl0:wK 85 2 0 [S [],S []] []=some (.cells [] 85 2 false,fun A=> .slice A 0 0 0):=rfl;have bs:jT [(0,1),(1,1)] [S [],S []] [(0,S key),(1,S x)]=some (.agg (prV (key,x))):=rfl;have bl1:wK 85 2 1 [S [],S []] [(0, .agg (prV (key,x)))]=some (.cells (prV (key,x)) 85 2 false,fun A=> .slice A 0 1 2):=rfl;simp(maxSteps:=999999)(disch:=omega) only[f44,eZ,e1,lp,zNx,hS,bl0,b2,c2,e3,bs,bl1,b4,e5,c5,e6]
 ·rw[<-hput]at e;simp at e
theorem VG (D:Dyn)(n:Nat){H:AH}(hk:H.ok){v:AV}{X:List Re}{kv:Kvs}(hr:ReR H v X)(p:DP kv X)(hn:X.length+300<n)(hX:X.length<=100000):
  ∃H' v',f21 D n [v] H=some (v',H')/\Prs H H'/\XU H' v' kv:=by
 have hln:lnSl v=some (.int .i64 ((X.length:Nat):Int)):=Rw.lnSl hr;have lp:=kI (b:=zFC D n) X.length (fun i us H'=> ∃w l,us=[v,w, .int .i64 ((i:Nat):Int)]/\Prs H H'/\XU H' w l/\Srt l/\l.length<=i/\ ∀q,q∈l↔ ∃r∈X.take i,q=xF r.d r.e) (fun i us H' hi ⟨w,l,hus,P,g,hs,hll,hm⟩=>by
  subst hus;have hr':ReR H' v X:=Rw.stp hr P fun _ _ x=>x
  obtain⟨A,o,i1,i2,i3,i4,i5⟩:=hr'.at hi;have hiI:((i:Nat):Int)< ((X.length:Nat):Int):=by omega
  have hi1:((i:Nat):Int)+((1:Nat):Int)=((i+1:Nat):Int):=by omega
  obtain⟨q1,q2,q3⟩:=p.fine _ (zR hi);obtain⟨q4,q5,q6,q7,q8,q9⟩:=q3;have hnl:=ZF q8;obtain⟨H1,e1,p1⟩:=BW D n P.ok X[i].d (by omega);obtain⟨H2,e2,p2⟩:=BW D n p1.ok X[i].e.c (by omega);obtain⟨H3,e3,p3⟩:=BW D n p2.ok X[i].e.i (by omega);have r1:=Rw.stp hr' p1 fun _ _ x=>x
  have r2:=Rw.stp r1 p2 fun _ _ x=>x
  have r3:=Rw.stp r2 p3 fun _ _ x=>x
  have same: ∀ {Hx:AH},Prs H' Hx-> ∀ {A j x},Eng.ld1 (.ptr A j) H'=some x->Eng.ld1 (.ptr A j) Hx=some x:=fun {Hx} P' {A j x} h=>ZG P.ok P' h
  have hno: ∀q∈l,q.1≠yG X[i].d X[i].e.c:=fun q hq e=>by
   obtain⟨r,hr1,rfl⟩:=(hm q).1 hq;obtain⟨j,hj,rfl⟩:=List.mem_iff_getElem.1 hr1;have hj':j<i:=by rw[zG]at hj;omega
   have hjX:j<X.length:=by omega
   simp only[List.getElem_take]at e;obtain⟨_,g2,g3⟩:=p.fine _ (zR hjX);exact List.pairwise_iff_getElem.1 p.nc j i hjX hi hj' (dJ (by omega) (by omega) (by have:=g3.2.1;omega) (by omega) e)
  obtain⟨H4,w4,e4,p4,g4,_⟩:=zKn D n p3.ok (Rw.stp (Rw.stp (Rw.stp g p1 fun _ _ x=>x) p2 fun _ _ x=>x) p3 fun _ _ x=>x) (by omega) (by omega) (yG X[i].d X[i].e.c) (vR X[i].e) hno;have hlp:=Nd.len_put (yG X[i].d X[i].e.c) (vR X[i].e) hs;refine⟨_,H4, ?_,w4,_,rfl,(((P.trans p1).trans p2).trans p3).trans p4,g4.row,Nd.srt_put _ _ hs,by rw[hlp];split<;>omega,fun q=> ?_⟩
  ·have hS:(AV.str 1 101)=S [101]:=rfl;have k1:jU .add (S [101]) (S (dig X[i].d 4))=some (S (vZ X[i].d)):=by rw[vK _ _ (by simp[yY])];rfl
   have k2:jU .add (S (vZ X[i].d)) (S (dig X[i].e.c 4))=some (S (yG X[i].d X[i].e.c)):=by rw[vK _ _ (by simp[yY,kS])];rfl
   have k3:jU .add (S (dig X[i].e.i 4)) (S X[i].e.n)=some (S (vR X[i].e)):=by rw[vK _ _ (by rw[yY];omega)];rfl
   have a3:=same p1 i3;have a4:=same p1 i4;have a5:=same p1 i5;have b4:=same (p1.trans p2) i4;have b5:=same (p1.trans p2) i5;have c5:=same ((p1.trans p2).trans p3) i5;simp(maxSteps:=999999)(disch:=omega) only[zFC,eZ,hln,hiI,i1,i2,i3,i4,i5,e1,a3,a4,a5,chkI,zNX,hS,k1,e2,b4,b5,k2,e3,c5,k3,e4,hi1]
  ·rw[fC hs,zJ hi,hm];constructor
   ·rintro(rfl | ⟨⟨r,hr1,rfl⟩,_⟩)
    ·exact⟨X[i],List.mem_append.2 (.inr (List.mem_singleton.2 rfl)),rfl⟩
    ·exact⟨r,List.mem_append.2 (.inl hr1),rfl⟩
   ·rintro⟨r,hr1,rfl⟩
    rcases List.mem_append.1 hr1 with hr1 | hr1
    ·exact .inr ⟨⟨r,hr1,rfl⟩,hno _ ((hm _).2 ⟨r,hr1,rfl⟩)⟩
    ·rw[List.mem_singleton.1 hr1];exact .inl rfl) n _ H ⟨.nilSlice,[],rfl,Stp.refl hk,Rw.nil _ _,trivial,by simp,fun q=>⟨fun h=>(by cases h),fun⟨r,h,_⟩=>(by simp at h)⟩⟩ (by omega)
 obtain⟨q,us,H5,e5,w,l,rfl,P5,g5,hs,_,hm⟩:=lp;rw[zY]at hm;have hkv:=p.pairs hs hm;subst hkv;refine⟨H5,w, ?_,P5,g5⟩;have last:qT (q+1) (zFC D n) [v,w, .int .i64 ((X.length:Nat):Int)] H5=some (.exit 0 [w],H5):=qU (by simp only[zFC,eZ,hln,zS]);simp(maxSteps:=999999)(disch:=omega) only[f21,eZ,e5,last,zNG]
theorem zNO (p:Str×Str):eqA [2,2] (.agg (prV p)) (.agg (prV p))=some true:=by
 have h2: ∀s:Str,dZ 2 (S s) (S s)=some true:=fun s=>by simp[dZ,S]
 simp only[eqA,prV,cL,Nat.succ_eq_add_one,Nat.beq_refl,zF,zV,Bool.and_self,cond_true,wT,h2]
theorem JD (D:Dyn)(n:Nat){H:AH}{v w:AV}{l:Kvs}(hv:XU H v l)(hw:XU H w l)(hl:l.length<n)(hl2:l.length<=1000000):f20 D n [v,w] H=some (.bool true,H):=by
 have l1:lnSl v=some (.int .i64 ((l.length:Nat):Int)):=Rw.lnSl hv;have l2:lnSl w=some (.int .i64 ((l.length:Nat):Int)):=Rw.lnSl hw;have lp:qT n (zIa D n) [v,w, .int .i64 ((0:Nat):Int)] H=some (.exit 0 [],H):=by
  refine j8 (fun i=>[v,w, .int .i64 ((i:Nat):Int)]) l.length (fun i hi=> ?_) (fun k=> ?_) n (by omega)
  ·have hiI:((i:Nat):Int)< ((l.length:Nat):Int):=by omega
   have hi1:((i:Nat):Int)+((1:Nat):Int)=((i+1:Nat):Int):=by omega
   obtain⟨A,o,i1,i2,_⟩:=hv.at hi;obtain⟨A',o',j1,j2,_⟩:=hw.at hi;have hc:vI .neq (eqA [2,2] (.agg (prV l[i])) (.agg (prV l[i])))=some (.bool false):=by rw[zNO];rfl
   simp(maxSteps:=999999)(disch:=omega) only[zIa,eZ,l1,hiI,i1,i2,j1,j2,hc,hi1]
  ·refine qU ?_;simp(maxSteps:=999999)(disch:=omega) only[zIa,eZ,l1,zS]
 have t: ¬(((l.length:Nat):Int)≠((l.length:Nat):Int)):=fun h=>h rfl
 simp(maxSteps:=999999)(disch:=omega) only[f20,eZ,l1,l2,t,lp,zNH]
theorem JC (D:Dyn)(n:Nat){H:AH}{v w:AV}{l:List En}(hv:EnR H v l)(hw:EnR H w l)(hl:l.length<n)(hl2:l.length<=1000000):f16 D n [v,w] H=some (.bool true,H):=by
 have l1:lnSl v=some (.int .i64 ((l.length:Nat):Int)):=Rw.lnSl hv;have l2:lnSl w=some (.int .i64 ((l.length:Nat):Int)):=Rw.lnSl hw;have lp:qT n (zIc D n) [v,w, .int .i64 ((0:Nat):Int)] H=some (.exit 0 [],H):=by
  refine j8 (fun i=>[v,w, .int .i64 ((i:Nat):Int)]) l.length (fun i hi=> ?_) (fun k=> ?_) n (by omega)
  ·have hiI:((i:Nat):Int)< ((l.length:Nat):Int):=by omega
   have hi1:((i:Nat):Int)+((1:Nat):Int)=((i+1:Nat):Int):=by omega
   obtain⟨A,o,i1,i2⟩:=hv.at hi;obtain⟨A',o',j1,j2⟩:=hw.at hi;have hc:vI .neq (eqA [2,6,6] (.agg (etV l[i])) (.agg (etV l[i])))=some (.bool false):=by rw[zNP];rfl
   simp(maxSteps:=999999)(disch:=omega) only[zIc,eZ,l1,hiI,i1,i2,j1,j2,hc,hi1]
  ·refine qU ?_;simp(maxSteps:=999999)(disch:=omega) only[zIc,eZ,l1,zS]
 have t: ¬(((l.length:Nat):Int)≠((l.length:Nat):Int)):=fun h=>h rfl
 simp(maxSteps:=999999)(disch:=omega) only[f16,eZ,l1,l2,t,lp,zNL]
end Go.Eng.Sh
end
section
namespace Go.Di
open Go.Dr
theorem zCI {l:List En}{e:En}(hs:l.Pairwise fun x y=>x.c<y.c)(hne: ∀x∈l,x.c≠e.c):(l.take (l.findIdx fun x=>decide (e.c<x.c))++e::l.drop (l.findIdx fun x=>decide (e.c<x.c))).Pairwise fun x y=>x.c<y.c:=by
 obtain⟨K,hK⟩: ∃K,K=l.findIdx fun x=>decide (e.c<x.c):=⟨_,rfl⟩
 rw[<-hK];have h1: ∀x∈l.take K,x.c<e.c:=fun x hx=>by
  obtain⟨j,hj,rfl⟩:=List.mem_iff_getElem.1 hx;have hj':j<K:=by rw[zG]at hj;omega
  have hjl:j<l.length:=by rw[zG]at hj;omega
  simp only[List.getElem_take];rw[hK]at hj';have:=List.not_of_lt_findIdx hj';have h3:=hne _ (zR hjl);have h2: ¬e.c<l[j].c:=by simpa using this
  omega
 have h2: ∀x∈l.drop K,e.c<x.c:=fun x hx=>by
  obtain⟨j,hj,rfl⟩:=List.mem_iff_getElem.1 hx;rw[zO]at hj;have hKl:K<l.length:=by omega
  rw[List.getElem_drop];have h3:e.c<l[K].c:=by
   subst hK;have:=List.findIdx_getElem (xs:=l) (p:=fun x=>decide (e.c<x.c)) (w:=hKl);simpa using this
  rcases Nat.eq_zero_or_pos j with rfl | hj0
  ·exact h3
  ·have:=List.pairwise_iff_getElem.1 hs K (K+j) hKl (by omega) (by omega);omega
 rw[List.pairwise_append];refine⟨hs.sublist (List.take_sublist _ _),List.pairwise_cons.2 ⟨h2,hs.sublist (List.drop_sublist _ _)⟩,fun a ha b hb=> ?_⟩;have ha':=h1 a ha;rcases List.mem_cons.1 hb with rfl | hb
 ·exact ha'
 ·have:=h2 b hb;omega
theorem zKT {l:List En}{e x:En}(K:Nat):x∈l.take K++e::l.drop K↔x∈l\/x=e:=by
 rw[qE,List.mem_cons];constructor
 ·rintro(h | rfl | h)
  ·exact .inl (List.mem_of_mem_take h)
  ·exact .inr rfl
  ·exact .inl (List.mem_of_mem_drop h)
 ·rintro(h | rfl)
  ·rw[<-List.take_append_drop K l]at h;rcases List.mem_append.1 h with h | h
   ·exact .inl h
   ·exact .inr (.inr h)
  ·exact .inr (.inl rfl)
end Go.Di
namespace Go.Eng.Sh
open Go.Nd (Ptr yH qQ Kvs Srt Str)
open Go.Bt Go.Dr Go.Di
theorem zFT (e:En):qP (etV e)=true:=rfl
theorem EnR.cook {H:AH}{v:AV}{l:List En}(h:EnR H v l){i:Nat}(hi:i<l.length): ∃A o,(∀κ (z:Int),z=(i:Int)->jB 3 v (.int κ z)=some (.ptr A o))/\Eng.ld1 (.ptr A (o+2)) H=some (.int .i64 ((l[i].c:Nat):Int)):=by
 obtain⟨A,o,h1,h2⟩:=zJb etV 3 (fun _=>rfl) h hi;exact⟨A,o,h1,h2 2 _ rfl⟩
theorem zKt (D:Dyn)(n:Nat){H:AH}{v w a1 a2:AV}{X:List Re}{l:List En}{i:Nat}(hr:ReR H v X)(hw:EnR H w l)(hi:i<X.length)(hX:X.length<=1000000)(hs:l.Pairwise fun x y=>x.c<y.c)(hl:l.length<n)(hl9:l.length<=1000000):
  qT n (zFF D n) [v,a1,a2,w, .int .i64 ((i:Nat):Int), .int .i64 ((l.length:Nat):Int)] H=some (.exit 2 [v,a1,a2,w, .int .i64 ((i:Nat):Int), .int .i64 ((l.findIdx (fun x=>decide (X[i].e.c<x.c)):Nat):Int)],H):=by
 obtain⟨K,hK⟩: ∃K,K=l.findIdx fun x=>decide (X[i].e.c<x.c):=⟨_,rfl⟩
 have hKl:K<=l.length:=by rw[hK];exact List.findIdx_le_length
 rw[<-hK];obtain⟨A,o,i1,_,i3,_,_⟩:=hr.at hi;refine j8 (fun j=>[v,a1,a2,w, .int .i64 ((i:Nat):Int), .int .i64 ((l.length - j:Nat):Int)]) (l.length - K) (fun j hj=> ?_) (fun q=> ?_) n (by omega)
 ·have h0:((0:Nat):Int)< ((l.length - j:Nat):Int):=by omega
  have hsub:((l.length - j:Nat):Int) - ((1:Nat):Int)=((l.length - (j+1):Nat):Int):=by omega
  have hp:l.length - (j+1)<l.length:=by omega
  obtain⟨A',o',j1,j2⟩:=hw.cook hp;have hKlt:K<l.length:=by omega
  have h3:X[i].e.c<l[K].c:=by
   subst hK;have:=List.findIdx_getElem (xs:=l) (p:=fun x=>decide (X[i].e.c<x.c)) (w:=hKlt);simpa using this
  have h4:X[i].e.c<l[l.length - (j+1)].c:=by
   rcases Nat.lt_or_ge K (l.length - (j+1))with h | h
   ·have:=List.pairwise_iff_getElem.1 hs K (l.length - (j+1)) hKlt hp h;omega
   ·have e:K=l.length - (j+1):=by omega
    simp only[<-e];exact h3
  have h4I:((X[i].e.c:Nat):Int)< ((l[l.length - (j+1)].c:Nat):Int):=by omega
  simp(maxSteps:=999999)(disch:=omega) only[zFF,eZ,h0,hsub,j1,j2,i1,i3,h4I]
 ·refine qU ?_;rw[show l.length - (l.length - K)=K by omega];by_cases hK0:K=0
  ·have h0: ¬((0:Nat):Int)< ((K:Nat):Int):=by omega
   simp(maxSteps:=999999)(disch:=omega) only[zFF,eZ,h0]
  ·have h0:((0:Nat):Int)< ((K:Nat):Int):=by omega
   have hsub:((K:Nat):Int) - ((1:Nat):Int)=((K - 1:Nat):Int):=by omega
   have hp:K - 1<l.length:=by omega
   obtain⟨A',o',j1,j2⟩:=hw.cook hp;have h4: ¬X[i].e.c<l[K - 1].c:=by
    have hlt:K - 1<l.findIdx fun x=>decide (X[i].e.c<x.c):=by omega
    have:=List.not_of_lt_findIdx hlt;simpa using this
   have h4I: ¬((X[i].e.c:Nat):Int)< ((l[K - 1].c:Nat):Int):=by omega
   simp(maxSteps:=999999)(disch:=omega) only[zFF,eZ,h0,hsub,j1,j2,i1,i3,h4I]
def zOc (d:Nat)(bz:Int)(X:List Re)(l:List En):Prop:=(l.Pairwise fun x y=>x.c<y.c)/\(∀e,e∈l↔bz< ((e.c:Nat):Int)/\⟨d,e⟩∈X)/\l.length<=X.length
theorem zEd (D:Dyn)(n:Nat){H:AH}(hk:H.ok){v:AV}{X:List Re}{kv:Kvs}(hr:ReR H v X)(p:DP kv X)(hn:X.length+300<n)(hX:X.length<=100000)(d:Nat)(bz:Int):
  ∃H' w l,f19 D n [v, .int .i64 ((d:Nat):Int), .int .i64 bz] H=some (w,H')/\Prs H H'/\Ens H' w l/\zOc d bz X l:=by
 have hln:lnSl v=some (.int .i64 ((X.length:Nat):Int)):=Rw.lnSl hr;have lp:=kI (b:=zAu D n) X.length (fun i us H'=> ∃w l,us=[v, .int .i64 ((d:Nat):Int), .int .i64 bz,w, .int .i64 ((i:Nat):Int)]/\Prs H H'/\Ens H' w l/\(l=[]->w= .nilSlice)/\zOc d bz (X.take i) l) (fun i us H' hi ⟨w,l,hus,P,g,g0,hs,hm,hll⟩=>by
  subst hus;have hr':ReR H' v X:=Rw.stp hr P fun _ _ x=>x
  obtain⟨A,o,i1,i2,i3,i4,i5⟩:=hr'.at hi;have hiI:((i:Nat):Int)< ((X.length:Nat):Int):=by omega
  have hi1:((i:Nat):Int)+((1:Nat):Int)=((i+1:Nat):Int):=by omega
  have hts:X.take (i+1)=X.take i++[X[i]]:=zJ hi;have htl:(X.take i).length=i:=by rw[zG];omega
  rw[htl]at hll;have skip: ¬(X[i].d=d/\bz< ((X[i].e.c:Nat):Int))->zOc d bz (X.take (i+1)) l:=fun hno=>by
   refine⟨hs,fun e=> ?_,by rw[zG];omega⟩;rw[hm,hts,qE,List.mem_singleton];constructor
   ·rintro⟨a,b⟩;exact⟨a, .inl b⟩
   ·rintro⟨a,b | b⟩
    ·exact⟨a,b⟩
    ·exact absurd (by rw[<-b];exact⟨rfl,a⟩) hno
  by_cases hd:X[i].d=d
  ·have hdI: ¬(((X[i].d:Nat):Int)≠((d:Nat):Int)):=by omega
   by_cases hb:((X[i].e.c:Nat):Int)<=bz
   ·refine⟨_,H', ?_,w,l,rfl,P,g,g0,skip fun h=>by omega⟩;simp(maxSteps:=999999)(disch:=omega) only[zAu,eZ,hln,hiI,i1,i2,hdI,i3,hb,zIb,hi1]
   ·have hne: ∀x∈l,x.c≠X[i].e.c:=fun x hx e=>by
     obtain⟨_,h2⟩:=(hm x).1 hx;obtain⟨j,hj,he⟩:=List.mem_iff_getElem.1 h2;have hj':j<i:=by omega
     have hjX:j<X.length:=by omega
     simp only[List.getElem_take]at he;refine List.pairwise_iff_getElem.1 p.nc j i hjX hi hj' ?_;rw[he];exact⟨hd.symm,e⟩
    obtain⟨K,hK⟩: ∃K,K=l.findIdx fun x=>decide (X[i].e.c<x.c):=⟨_,rfl⟩
    have hKl:K<=l.length:=by rw[hK];exact List.findIdx_le_length
    have hin:=zKt D n (a1:= .int .i64 ((d:Nat):Int)) (a2:= .int .i64 bz) hr' (yN.row g) hi (by omega) hs (by omega) (by omega);rw[<-hK]at hin;obtain⟨H2,A1,r1,w1,H3,A2,H4,w2,H5,r2,w3,H6,b2,c2,e3,b4,e5,c5,e6,P3,P6,G6,f6⟩:=insG (f:=etV) (e:=46) (k:=3) (bytes:=32) (fun _=>rfl) zFT (by decide) (by decide) P.ok g g0 hKl (by omega) X[i].e;have j3:=ZG P.ok P3 i3;have j4:=ZG P.ok P3 i4;have j5:=ZG P.ok P3 i5;have hlw:lnSl w=some (.int .i64 ((l.length:Nat):Int)):=Rw.lnSl (yN.row g);refine⟨_,H6, ?_,w3,_,rfl,P.trans P6,G6,fun e=>by simp at e, ?_,fun e=> ?_, ?_⟩
    ·have hS:(AV.str 0 0)=S []:=rfl;have bl0:wK 46 3 0 [S [], .int .i64 ((0:Nat):Int), .int .i64 ((0:Nat):Int)] []=some (.cells [] 46 3 false,fun A=> .slice A 0 0 0):=rfl;have bs:jT [(0,1),(1,1),(2,1)] [S [], .int .i64 ((0:Nat):Int), .int .i64 ((0:Nat):Int)] [(0,S X[i].e.n),(1, .int .i64 ((X[i].e.i:Nat):Int)),(2, .int .i64 ((X[i].e.c:Nat):Int))]=some (.agg (etV X[i].e)):=rfl;have bl1:wK 46 3 1 [S [], .int .i64 ((0:Nat):Int), .int .i64 ((0:Nat):Int)] [(0, .agg (etV X[i].e))]=some (.cells (etV X[i].e) 46 3 false,fun A=> .slice A 0 1 2):=rfl;simp(maxSteps:=999999)(disch:=omega) only[zAu,eZ,hln,hiI,i1,i2,hdI,i3,hb,hlw,hin,zNJ,hS,bl0,b2,c2,e3,j3,j4,j5,bs,bl1,b4,e5,c5,e6,zIb,hi1]
    ·have:=zCI hs hne;rw[<-hK]at this;exact this
    ·rw[zKT,hm,hts,qE,List.mem_singleton];constructor
     ·rintro(⟨a,b⟩ | rfl)
      ·exact⟨a, .inl b⟩
      ·exact⟨by omega, .inr (by rw[<-hd])⟩
     ·rintro⟨a,b | b⟩
      ·exact .inl ⟨a,b⟩
      ·exact .inr (by rw[<-b])
    ·simp only[zI,zG,zF,zO];omega
  ·have hdI:((X[i].d:Nat):Int)≠((d:Nat):Int):=by omega
   refine⟨_,H', ?_,w,l,rfl,P,g,g0,skip fun h=>hd h.1⟩;simp(maxSteps:=999999)(disch:=omega) only[zAu,eZ,hln,hiI,i1,i2,hdI,ne_eq,not_false_eq_true,zIb,hi1]) n _ H ⟨.nilSlice,[],rfl,Stp.refl hk, .inl (Own.nil ..),fun _=>rfl, .nil,fun e=>⟨fun h=>(by cases h),fun h=>(by simp at h)⟩,by simp⟩ (by omega)
 obtain⟨q,us,H5,e5,w,l,rfl,P5,g5,_,hI⟩:=lp;rw[zY]at hI;refine⟨H5,w,l, ?_,P5,g5,hI⟩;have last:qT (q+1) (zAu D n) [v, .int .i64 ((d:Nat):Int), .int .i64 bz,w, .int .i64 ((X.length:Nat):Int)] H5=some (.exit 0 [w],H5):=qU (by simp only[zAu,eZ,hln,zS]);simp(maxSteps:=999999)(disch:=omega) only[f19,eZ,e5,last,zNI]
theorem zOc.eq {kv:Kvs}{X:List Re}(p:DP kv X){d:Nat}{bz:Int}{l:List En}(h:zOc d bz X l)(hd:d<2147483648)(hb:0<=bz):l=liE d (min bz.toNat 262144) kv:=by
 obtain⟨hs,hm,_⟩:=h;by_cases hle:bz<=262144
 ·rw[show min bz.toNat 262144=bz.toNat by omega];refine p.list hd (by omega) hs fun e=> ?_
  rw[hm];exact⟨fun h=>⟨by omega,h.2⟩,fun h=>⟨by omega,h.2⟩⟩
 ·rw[show min bz.toNat 262144=262144 by omega];refine p.none (b:=bz.toNat) hd (by omega) fun e=> ?_
  rw[hm];exact⟨fun h=>⟨by omega,h.2⟩,fun h=>⟨by omega,h.2⟩⟩
theorem VI (D:Dyn)(n:Nat){H:AH}{v:AV}{z b k:Int}(h: ¬((1<=z/\z<=2147483647)/\0<=b/\0<=k)):f15 D n [v, .int .i64 z, .int .i64 b, .int .i64 k] H=some (.tuple [.nilSlice, .bool false, .int .i64 ((1:Nat):Int)],H):=by
 have c1:=xR D n (H:=H) z
 cases hz:okN z with
 | false=>
  rw[hz]at c1;simp(maxSteps:=999999)(disch:=omega) only[f15,eZ,c1]
 | true=>
  rw[hz]at c1;have h1:=xS.1 hz;by_cases h2:b< ((0:Nat):Int)
  ·simp(maxSteps:=999999)(disch:=omega) only[f15,eZ,c1,h2]
  ·have h3:k< ((0:Nat):Int):=by omega
   simp(maxSteps:=999999)(disch:=omega) only[f15,eZ,c1,h2,h3]
theorem zB5 (D:Dyn)(n:Nat){H:AH}(hk:H.ok){v:AV}{X:List Re}{kv:Kvs}(hr:ReR H v X)(p:DP kv X)(hn:X.length+300<n)(hX:X.length<=100000){d:Nat}(h1:1<=d)(h2:d<=2147483647){bz:Int}(hb:0<=bz)(k:Nat):
  ∃H' w,f15 D n [v, .int .i64 ((d:Nat):Int), .int .i64 bz, .int .i64 ((k:Nat):Int)] H=some (.tuple [w, .bool (!decide (k< (liE d (min bz.toNat 262144) kv).length)), .int .i64 ((0:Nat):Int)],H')/\Prs H H'/\EnR H' w ((liE d (min bz.toNat 262144) kv).take k):=by
 have c1:=xR D n (H:=H) ((d:Nat):Int);rw[xS.2 (by omega)]at c1;obtain⟨H1,w,l,e1,p1,g1,hI⟩:=zEd D n hk hr p hn hX d bz;have hl:=hI.eq p (by omega) hb;obtain⟨_,_,hll⟩:=hI;rw[<-hl];have t1: ¬bz< ((0:Nat):Int):=by omega
 have t2: ¬((k:Nat):Int)< ((0:Nat):Int):=by omega
 have hln:lnSl w=some (.int .i64 ((l.length:Nat):Int)):=Rw.lnSl (yN.row g1);by_cases hlt:k<l.length
 ·obtain⟨r,c2,q2⟩:=g1.hi (i:=k) (by decide) (by omega);rw[zHS etV 3 fun _=>rfl]at q2;have hI9:((k:Nat):Int)< ((l.length:Nat):Int):=by omega
  refine⟨H1,r, ?_,p1, ?_⟩
  ·rw[decide_eq_true hlt];simp(maxSteps:=999999)(disch:=omega) only[f15,eZ,c1,t1,t2,e1,hln,hI9,c2,Bool.not_true]
  ·show Rw 3 _ _ _ _;rw[show(l.take k).length=k by rw[zG];omega];exact q2
 ·have hI9: ¬((k:Nat):Int)< ((l.length:Nat):Int):=by omega
  refine⟨H1,w, ?_,p1, ?_⟩
  ·rw[decide_eq_false hlt];simp(maxSteps:=999999)(disch:=omega) only[f15,eZ,c1,t1,t2,e1,hln,hI9,Bool.not_false]
  ·rw[zK (by omega)];exact yN.row g1
theorem zGa (m:Nat)(hm:700000000<=m){H:AH}{At M L d:Nat}{kv:Kvs}{X:List Re}(t:wC H At M L kv)(hL:L<=1000000)(hkv:kv.length<=100000000)(p:DP kv X)(hd:1<=d)(hd2:d<=2147483647):
  ∃H',f17 (dy (m+1)) (m+1) [.ptr At 0, .int .i64 ((d:Nat):Int)] H=some (.tuple [.bool (decide ((liE d 0 kv).length=0)), .int .i64 ((0:Nat):Int)],H')/\Prs H H':=by
 obtain⟨H1,v,e1,p1,g1,_⟩:=UV m hm (bz:=((0:Nat):Int)) (most:=1) t hL hkv p hd hd2 (by omega) (by omega);rw[show min (((0:Nat):Int)).toNat 262144=0 from rfl]at e1 g1;have hln:lnSl v=some (.int .i64 ((((liE d 0 kv).take 1).length:Nat):Int)):=Rw.lnSl (yN.row g1);rw[zG]at hln;refine⟨H1, ?_,p1⟩;by_cases h1:1< (liE d 0 kv).length
 ·rw[decide_eq_true h1]at e1;rw[decide_eq_false (p:=(liE d 0 kv).length=0) (by omega)];simp(maxSteps:=999999)(disch:=omega) only[f17,eZ,e1,qL,nth,Bool.not_true]
 ·rw[decide_eq_false h1]at e1;by_cases h0:(liE d 0 kv).length=0
  ·rw[decide_eq_true h0];have hz:((min 1 (liE d 0 kv).length:Nat):Int)=((0:Nat):Int):=by omega
   simp(maxSteps:=999999)(disch:=omega) only[f17,eZ,e1,qL,nth,Bool.not_false,hln,hz]
  ·rw[decide_eq_false h0];have hz: ¬((min 1 (liE d 0 kv).length:Nat):Int)=((0:Nat):Int):=by omega
   simp(maxSteps:=999999)(disch:=omega) only[f17,eZ,e1,qL,nth,Bool.not_false,hln,hz]
theorem zAX (D:Dyn)(n:Nat){H:AH}(hk:H.ok){v a0 a1 a2 a3 a4:AV}{l:List AV}{k:Nat}(g:yN 3 46 H v k l)(hk9:k<n)(hk8:k<=1000000):
  ∃H',qT n (zCN D n) [a0,a1,a2,a3,a4,v, .int .i64 ((0:Nat):Int)] H=some (.exit 3 [a0,a1,a2,a3,a4],H')/\Stp (Blk v) H H':=by
 have hln:lnSl v=some (.int .i64 ((k:Nat):Int)):=g.row.lnSl;have hS:(AV.str 6 128008974200947)=S [115,112,111,105,108,116]:=rfl;have lp:=kI (b:=zCN D n) k (fun i us H'=>us=[a0,a1,a2,a3,a4,v, .int .i64 ((i:Nat):Int)]/\Stp (Blk v) H H'/\ ∃l',yN 3 46 H' v k l') (fun i us H' hi ⟨hus,st,l',g'⟩=>by
  subst hus;obtain⟨A,o,H2,x1,x2,g2,s2⟩:=g'.st1 st.ok (by decide) hi (show 0<3 by decide) (x:=S [115,112,111,105,108,116]) rfl;have hiI:((i:Nat):Int)< ((k:Nat):Int):=by omega
  have hi1:((i:Nat):Int)+((1:Nat):Int)=((i+1:Nat):Int):=by omega
  refine⟨_,H2, ?_,rfl,st.trans s2,_,g2⟩;simp(maxSteps:=999999)(disch:=omega) only[zCN,eZ,hln,hiI,x1,hS,x2,hi1]) n _ H ⟨rfl,Stp.refl hk,l,g⟩ (by omega)
 obtain⟨q,us,H5,e5,rfl,st,_⟩:=lp;refine⟨H5, ?_,st⟩;rw[e5];refine qU ?_;simp(maxSteps:=999999)(disch:=omega) only[zCN,eZ,hln,zS]
structure PI (Hi H:AH)(At M L i:Nat)(X:List Re)(kv:Kvs)(v:AV):Prop where
 prs:Prs Hi H
 lo:Hi.next<=At/\Hi.next<=M
 t:wC H At M L kv
 p:DP kv X
 g:ReG H v X
 f: ∀B,Blk v B->B≠At/\B≠M
 xl:X.length<=i
 kl:kv.length<=i
theorem PI.fresh {Hi H H':AH}{At M L i:Nat}{X:List Re}{kv:Kvs}{v:AV}(h:PI Hi H At M L i X kv v)(s:Prs H H'):PI Hi H' At M L i X kv v:=
 ⟨h.prs.trans s,h.lo,h.t.prs s,h.p,yN.mono h.g s fun _ _ x=>x,h.f,h.xl,h.kl⟩
theorem PI.more {Hi H:AH}{At M L L' i i':Nat}{X:List Re}{kv:Kvs}{v:AV}(h:PI Hi H At M L i X kv v)(hL:L<=L')(hi:i<=i'):PI Hi H At M L' i' X kv v:=
 ⟨h.prs,h.lo,h.t.up hL,h.p,h.g,h.f,by have:=h.xl;omega,by have:=h.kl;omega⟩
theorem PI.far {Hi H H':AH}{At M L i:Nat}{X:List Re}{kv:Kvs}{v v':AV}(h:PI Hi H At M L i X kv v)(N:H.next<=H'.next)(f: ∀B,Blk v' B->Blk v B\/H'.next<=B): ∀B,Blk v' B->B≠At/\B≠M:=fun B hB=>by
 rcases f B hB with e | e
 ·exact h.f B e
 ·have:=h.t.lt;omega
theorem zJe {z:Int}(h:okN z=false): ¬(1<=z/\z<=2147483647):=fun e=>by rw[xS.2 e]at h;cases h
theorem zC6 {z:Int}(A:Nat)(h:okN z=false):Bad (.ptr A 0) z 1:= .inr ⟨A,rfl,zJe h,rfl⟩
theorem zMw (m:Nat)(hm:700000000<=m){Hi H:AH}{At M L i:Nat}{X:List Re}{kv:Kvs}{v:AV}(h:PI Hi H At M L i X kv v)(hL:L<=500000)(hi:i<=1000){nm:Str}(hnm:nm.length<=1000)(z ino:Int):
  ∃H1 H2 v' X' kv' a e,f8 (dy (m+1)) (m+1) [.ptr At 0, .int .i64 z,S nm, .int .i64 ino] H=some (.tuple [.int .i64 a, .int .i64 e],H1)/\f9 (dy (m+1)) (m+1) [v, .int .i64 z,S nm, .int .i64 ino] H1=some (.tuple [v', .int .i64 a, .int .i64 e],H2)/\
   PI Hi H2 At M (L+200) (i+1) X' kv' v'/\Stp (fun B=>B=At\/B=M) H H1/\Prs H1 H2:=by
 have hk:=h.prs.ok;have hx:=h.xl;have hkl:=h.kl
 cases hz:okN z with
 | false=>
  obtain⟨H1,e1,p1⟩:=zLE (dy (m+1)) (m+1) hk (zC6 At hz) nm ino;exact⟨H1,H1,v,X,kv,_,_,e1,zHh _ _ hz nm ino,(h.fresh p1).more (by omega) (by omega),Prs.stp p1,Stp.refl p1.ok⟩
 | true=>
  obtain⟨z1,z2⟩:=xS.1 hz;obtain⟨d,rfl⟩: ∃d:Nat,z=(d:Int):=⟨z.toNat,by omega⟩;obtain⟨H1,e1,t1,s1⟩:=zLs m hm (nm:=nm) (ino:=ino) h.t (by omega) (by omega) (h.p.f (d:=d) (by omega)) (by omega) (by omega) (by omega);obtain⟨q1,q2,q3,q4,q5⟩:=h.p.add2 (d:=d) (by omega) (by omega) nm ino;rw[q1,q2]at e1;have g1:ReG H1 v X:=yN.mono h.g s1 fun B hB e=>by have:=h.f B hB;omega
  obtain⟨H2,v',e2,p2,g2,f2⟩:=zKu (dy (m+1)) (m+1) (by omega) s1.ok g1 (by omega) (by omega) (d:=d) (by omega) (by omega) nm (by omega) (by omega) ino;have hlo:=h.lo;have lt:=h.t.lt;exact⟨H1,H2,v',_,_,_,_,e1,e2,⟨(h.prs.fresh s1 fun B hB=>by omega).trans p2,h.lo,t1.prs p2,q3,g2,h.far s1.next f2,by omega,by omega⟩,s1,p2⟩
theorem zIi {kv:Kvs}{X:List Re}(p:DP kv X){d:Nat}(h2:d<2147483648)(nm:Str):zCQ d nm kv=match uC d nm X with
   | some e=>[.int .i64 ((e.i:Nat):Int), .int .i64 ((0:Nat):Int)]
   | none=>[.int .i64 ((0:Nat):Int), .int .i64 ((bif wR nm then 5 else 56:Nat):Int)]:=by
 rw[zCQ,p.here h2]
 try(cases uC d nm X<;>rfl)
theorem zHU {kv:Kvs}{X:List Re}(p:DP kv X){d:Nat}(h2:d<2147483648)(nm:Str):WW d nm kv=match uC d nm X with
   | some e=>[.int .i64 ((e.i:Nat):Int), .int .i64 ((e.c:Nat):Int), .int .i64 ((0:Nat):Int)]
   | none=>[.int .i64 ((0:Nat):Int), .int .i64 ((0:Nat):Int), .int .i64 ((bif wR nm then 5 else 56:Nat):Int)]:=by
 rw[<-p.here h2 nm,aG,WW]
 cases wR nm with
 | false=>rfl
 | true=>
  simp only[cond_true]
  try(cases vV d nm kv<;>rfl)
theorem zKC (m:Nat)(hm:700000000<=m){Hi H:AH}{At M L i:Nat}{X:List Re}{kv:Kvs}{v:AV}(h:PI Hi H At M L i X kv v)(hL:L<=500000)(hi:i<=1000){nm:Str}(hnm:nm.length<=1000)(z:Int):
  ∃H1 H2 v' X' kv' a e,f10 (dy (m+1)) (m+1) [.ptr At 0, .int .i64 z,S nm] H=some (.tuple [.int .i64 a, .int .i64 e],H1)/\f11 (dy (m+1)) (m+1) [v, .int .i64 z,S nm] H1=some (.tuple [v', .int .i64 a, .int .i64 e],H2)/\
   PI Hi H2 At M (L+200) (i+1) X' kv' v'/\Stp (fun B=>B=At\/B=M) H H1/\Prs H1 H2:=by
 have hk:=h.prs.ok;have hx:=h.xl;have hkl:=h.kl
 cases hz:okN z with
 | false=>
  obtain⟨H1,e1,p1⟩:=zIh (dy (m+1)) (m+1) hk (zC6 At hz) nm;exact⟨H1,H1,v,X,kv,_,_,e1,zE5 _ _ hz nm,(h.fresh p1).more (by omega) (by omega),Prs.stp p1,Stp.refl p1.ok⟩
 | true=>
  obtain⟨z1,z2⟩:=xS.1 hz;obtain⟨d,rfl⟩: ∃d:Nat,z=(d:Int):=⟨z.toNat,by omega⟩;obtain⟨H1,e1,t1,s1⟩:=zIr m hm (nm:=nm) h.t (by omega) (by omega) (h.p.f (d:=d) (by omega)) (by omega) (by omega) (by omega);obtain⟨q3,q4,q5⟩:=h.p.drop2 (d:=d) (by omega) nm;rw[zIi h.p (by omega)]at e1;have g1:ReG H1 v X:=yN.mono h.g s1 fun B hB e=>by have:=h.f B hB;omega
  obtain⟨H2,v',e2,p2,g2,f2⟩:=zHf (dy (m+1)) (m+1) (by omega) s1.ok g1 (by omega) (by omega) (d:=d) (by omega) (by omega) nm (by omega) (by omega);have hlo:=h.lo;have hP:PI Hi H2 At M (L+200) (i+1) (Y7 d nm X) (YX d nm kv) v':=⟨(h.prs.fresh s1 fun B hB=>by omega).trans p2,h.lo,t1.prs p2,q3,g2,h.far s1.next f2,by omega,by omega⟩
  cases ho:uC d nm X with
  | some e=>
   rw[ho]at e1 e2;exact⟨H1,H2,v',_,_,_,_,e1,e2,hP,s1,p2⟩
  | none=>
   rw[ho]at e1 e2;exact⟨H1,H2,v',_,_,_,_,e1,e2,hP,s1,p2⟩
theorem zKB (m:Nat)(hm:700000000<=m){Hi H:AH}{At M L i:Nat}{X:List Re}{kv:Kvs}{v:AV}(h:PI Hi H At M L i X kv v)(hL:L<=500000)(hi:i<=1000){nm:Str}(hnm:nm.length<=1000)(z:Int):
  ∃H1 a c e,f12 (dy (m+1)) (m+1) [.ptr At 0, .int .i64 z,S nm] H=some (.tuple [.int .i64 a, .int .i64 c, .int .i64 e],H1)/\f13 (dy (m+1)) (m+1) [v, .int .i64 z,S nm] H1=some (.tuple [.int .i64 a, .int .i64 c, .int .i64 e],H1)/\Prs H H1:=by
 have hk:=h.prs.ok;have hx:=h.xl;have hkl:=h.kl
 cases hz:okN z with
 | false=>
  obtain⟨H1,e1,p1⟩:=zHT (dy (m+1)) (m+1) hk (zC6 At hz) nm;exact⟨H1,_,_,_,e1,VJ _ _ hz nm,p1⟩
 | true=>
  obtain⟨z1,z2⟩:=xS.1 hz;obtain⟨d,rfl⟩: ∃d:Nat,z=(d:Int):=⟨z.toNat,by omega⟩;obtain⟨H1,e1,p1⟩:=zIn m hm (nm:=nm) h.t (by omega) (by omega) (h.p.f (d:=d) (by omega)) (by omega) (by omega) (by omega);rw[zHU h.p (by omega)]at e1;have e2:=zB8 (dy (m+1)) (m+1) (H:=H1) (yN.row (h.fresh p1).g) (by omega) (by omega) (d:=d) (by omega) (by omega) nm (by omega) (by omega)
  cases ho:uC d nm X with
  | some e=>
   rw[ho]at e1 e2;exact⟨H1,_,_,_,e1,e2,p1⟩
  | none=>
   rw[ho]at e1 e2;exact⟨H1,_,_,_,e1,e2,p1⟩
theorem zKA (m:Nat)(hm:700000000<=m){Hi H:AH}{At M L i:Nat}{X:List Re}{kv:Kvs}{v a0 a1 a2 a3 a4:AV}(h:PI Hi H At M L i X kv v)(hL:L<=500000)(hi:i<=1000)(z b k:Int):
  ∃H1 H2 H3 v1 w e c,f14 (dy (m+1)) (m+1) [.ptr At 0, .int .i64 z, .int .i64 b, .int .i64 k] H=some (.tuple [v1, .bool e, .int .i64 c],H1)/\f15 (dy (m+1)) (m+1) [v, .int .i64 z, .int .i64 b, .int .i64 k] H1=some (.tuple [w, .bool e, .int .i64 c],H2)/\
   f16 (dy (m+1)) (m+1) [v1,w] H2=some (.bool true,H2)/\qT (m+1) (zCN (dy (m+1)) (m+1)) [a0,a1,a2,a3,a4,v1, .int .i64 ((0:Nat):Int)] H2=some (.exit 3 [a0,a1,a2,a3,a4],H3)/\Prs H H1/\Prs H H3:=by
 have hk:=h.prs.ok;have hx:=h.xl;have hkl:=h.kl;by_cases hg:(1<=z/\z<=2147483647)/\0<=b/\0<=k
 ·obtain⟨⟨z1,z2⟩,hb,hk0⟩:=hg;obtain⟨d,rfl⟩: ∃d:Nat,z=(d:Int):=⟨z.toNat,by omega⟩;obtain⟨k',rfl⟩: ∃k':Nat,k=(k':Int):=⟨k.toNat,by omega⟩;obtain⟨H1,v1,e1,p1,g1,f1⟩:=UV m hm (d:=d) (bz:=b) (most:=k') h.t (by omega) (by omega) h.p (by omega) (by omega) hb (by omega);have h1:=h.fresh p1;obtain⟨H2,w,e2,p2,g2⟩:=zB5 (dy (m+1)) (m+1) p1.ok (yN.row h1.g) h1.p (by omega) (by omega) (d:=d) (by omega) (by omega) hb k';have hlen:((liE d (min b.toNat 262144) kv).take k').length<=1000:=by
   have a1:=List.length_filter_le (inP (yG d (min b.toNat 262144+1)) (vZ (d+1))) kv;have a2:(liE d (min b.toNat 262144) kv).length<=kv.length:=by rw[liE,qA];exact a1
   rw[zG];omega
  have g12:=yN.mono g1 p2 fun _ _ x=>x
  have e3:=JC (dy (m+1)) (m+1) (yN.row g12) g2 (by omega) (by omega);obtain⟨H3,e4,s4⟩:=zAX (dy (m+1)) (m+1) p2.ok (a0:=a0) (a1:=a1) (a2:=a2) (a3:=a3) (a4:=a4) g12 (by omega) (by omega);exact⟨H1,H2,H3,v1,w,_,_,e1,e2,e3,e4,p1,(p1.trans p2).fresh s4 fun B hB=>f1 B hB⟩
 ·have e1:=zBs (dy (m+1)) (m+1) (H:=H) (x0:= .ptr At 0) (z:=z) (b:=b) (k:=k) (c:=1) (.inr ⟨At,rfl,hg,rfl⟩);have e2:=VI (dy (m+1)) (m+1) (H:=H) (v:=v) hg;have e3:=JC (dy (m+1)) (m+1) (H:=H) (v:= .nilSlice) (w:= .nilSlice) (l:=[]) (Rw.nil _ _) (Rw.nil _ _) (by simp) (by simp);obtain⟨H3,e4,s4⟩:=zAX (dy (m+1)) (m+1) hk (a0:=a0) (a1:=a1) (a2:=a2) (a3:=a3) (a4:=a4) (v:= .nilSlice) (l:=[]) (k:=0) (.inl (Own.nil ..)) (by omega) (by omega);exact⟨H,H,H3, .nilSlice, .nilSlice,_,_,e1,e2,e3,e4,Stp.refl hk,s4.mono fun B _ hB=>(Blk.nil.1 hB).elim⟩
theorem YD (kv:Kvs):jF [] [] kv=kv:=List.filter_eq_self.2 fun p _=>by
 have:ltS p.1 []=false:=by cases p.1<;>rfl
 simp[inP,y6,this]
theorem WC (m:Nat)(hm:700000000<=m){Hi H:AH}{At M L i A11 j:Nat}{X:List Re}{kv:Kvs}{v x0:AV}{a:Ac}(h:PI Hi H At M L i X kv v)(hL:L<=500000)(hi:i<=1000)(hj:j<=1000)(hs:a.s.length<=1000)(g:H.h.get A11=some (.cells (acV a) 29 1 false)):
  ∃H',zFw (dy (m+1)) (m+1) [x0, .ptr At 0,v, .int .i64 ((j:Nat):Int), .ptr A11 0] H=some (.norm [x0, .ptr At 0,v, .int .i64 ((j+1:Nat):Int)],H')/\Prs H H':=by
 have hk:=h.prs.ok;have hx:=h.xl;have hkl:=h.kl;have hj1:((j:Nat):Int)+((1:Nat):Int)=((j+1:Nat):Int):=by omega
 have hS0:(AV.str 0 0)=S []:=rfl;have rd: ∀ {Hx:AH},Prs H Hx->Eng.ld1 (.ptr A11 1) Hx=some (.int .i64 a.d)/\Eng.ld1 (.ptr A11 4) Hx=some (S a.s):=fun {Hx} P=>by
  have gx:=Prs.get P hk g;exact⟨by rw[qM gx];rfl,by rw[qM gx];rfl⟩
 have dh: ∀Hx:AH,f22 (dy (m+1)) (m+1) [S a.s] Hx=some (.int .i64 ((yD a.s:Nat):Int),Hx):=fun Hx=>ZJ _ _ _ (by omega) (by omega)
 have rh: ∀Hx:AH,f23 (dy (m+1)) (m+1) [S a.s] Hx=some (.int .i64 ((yD a.s:Nat):Int),Hx):=fun Hx=>zB6 _ _ _ (by omega) (by omega)
 have t00: ¬(((0:Nat):Int)≠((0:Nat):Int)):=by omega
 have thh: ¬(((yD a.s:Nat):Int)≠((yD a.s:Nat):Int)):=fun h=>h rfl
 have range: ∀ {Hx:AH},PI Hi Hx At M L i X kv v-> ∃H' v2,f18 (dy (m+1)) (m+1) [.ptr At 0,S [],S [], .int .i64 ((9999:Nat):Int)] Hx=some (.tuple [v2, .bool false, .int .i64 ((0:Nat):Int)],H')/\Prs Hx H'/\XU H' v2 kv:=fun {Hx} hP=>by
  obtain⟨H',v2,e,p,g2,_⟩:=VM m hm (most:=9999) hP.t (by omega) (by omega) [] [] (by omega);rw[YD,zK (by omega)]at g2;rw[YD,decide_eq_false (by omega)]at e;exact⟨H',v2,e,p,g2.row⟩
 cases hz:okN a.d with
 | true=>
  obtain⟨z1,z2⟩:=xS.1 hz;obtain⟨d,hd⟩: ∃d:Nat,a.d=(d:Int):=⟨a.d.toNat,by omega⟩;rw[hd]at rd;obtain⟨H1,e1,p1⟩:=zGa m hm (d:=d) h.t (by omega) (by omega) h.p (by omega) (by omega);have h1:=h.fresh p1;obtain⟨H2,w2,e2,p2,_⟩:=zB5 (dy (m+1)) (m+1) p1.ok (yN.row h1.g) h1.p (by omega) (by omega) (d:=d) (by omega) (by omega) (bz:=((0:Nat):Int)) (by omega) 0;have h2:=h1.fresh p2;obtain⟨H3,w3,e3,p3,g3⟩:=range h2;have h3:=h2.fresh p3;obtain⟨H4,w4,l4,e4,p4,g4,I4⟩:=zEd (dy (m+1)) (m+1) p3.ok (yN.row h3.g) h3.p (by omega) (by omega) d ((0:Nat):Int);have hl4:=I4.eq h3.p (by omega) (by omega);rw[show min (((0:Nat):Int)).toNat 262144=0 from rfl]at hl4;have h4:=h3.fresh p4;obtain⟨H5,w5,e5,p5,g5⟩:=VG (dy (m+1)) (m+1) p4.ok (yN.row h4.g) h4.p (by omega) (by omega);have g35:XU H5 w3 kv:=Rw.stp (Rw.stp g3 p4 fun _ _ x=>x) p5 fun _ _ x=>x
  have e6:=JD (dy (m+1)) (m+1) g35 g5 (by omega) (by omega);obtain⟨r0,_⟩:=rd (Stp.refl hk);obtain⟨r1,_⟩:=rd p1;obtain⟨r3,_⟩:=rd ((p1.trans p2).trans p3);obtain⟨_,r5⟩:=rd ((((p1.trans p2).trans p3).trans p4).trans p5);have hln:lnSl w4=some (.int .i64 ((l4.length:Nat):Int)):=Rw.lnSl (yN.row g4);refine⟨H5, ?_,(((p1.trans p2).trans p3).trans p4).trans p5⟩;rw[<-hl4]at e1;by_cases h0:l4.length=0
  ·rw[decide_eq_true h0]at e1;have hz0:((l4.length:Nat):Int)=((0:Nat):Int):=by omega
   simp(maxSteps:=999999)(disch:=omega) only[zFw,eZ,r0,e1,qL,nth,r1,e2,hS0,e3,t00,r3,e4,hln,hz0,e5,e6,r5,dh,zNX,rh,thh,hj1,beq_self_eq_true,Bool.not_true,Bool.not_false,Bool.false_eq_true,if_false]
  ·rw[decide_eq_false h0]at e1;have hz0: ¬((l4.length:Nat):Int)=((0:Nat):Int):=by omega
   simp(maxSteps:=999999)(disch:=omega) only[zFw,eZ,r0,e1,qL,nth,r1,e2,hS0,e3,t00,r3,e4,hln,hz0,e5,e6,r5,dh,zNX,rh,thh,hj1,beq_self_eq_true,Bool.not_true,Bool.not_false,Bool.false_eq_true,if_false]
 | false=>
  have e1:=zG0 (dy (m+1)) (m+1) (H:=H) (zC6 At hz);have e2:=VI (dy (m+1)) (m+1) (H:=H) (v:=v) (z:=a.d) (b:=((0:Nat):Int)) (k:=((0:Nat):Int)) (fun e=>zJe hz e.1);obtain⟨H3,w3,e3,p3,g3⟩:=range h;have h3:=h.fresh p3;obtain⟨H5,w5,e5,p5,g5⟩:=VG (dy (m+1)) (m+1) p3.ok (yN.row h3.g) h3.p (by omega) (by omega);have e6:=JD (dy (m+1)) (m+1) (Rw.stp g3 p5 fun _ _ x=>x) g5 (by omega) (by omega);obtain⟨r0,_⟩:=rd (Stp.refl hk);obtain⟨_,r5⟩:=rd (p3.trans p5);have t11: ¬(((1:Nat):Int)≠((1:Nat):Int)):=by omega
  have t10: ¬((1:Nat):Int)=((0:Nat):Int):=by omega
  refine⟨H5, ?_,p3.trans p5⟩;simp(maxSteps:=999999)(disch:=omega) only[zFw,eZ,r0,e1,qL,nth,e2,hS0,e3,t00,t11,t10,e5,e6,r5,dh,zNX,rh,thh,hj1,beq_self_eq_true,Bool.not_true,Bool.not_false,Bool.false_eq_true,if_false]
theorem nne (z:Int):(z≠z)=False:=eq_false fun h=>h rfl
theorem zLn (m:Nat)(hm:700000000<=m){Hi H:AH}{At M L i:Nat}{X:List Re}{kv:Kvs}{l:List Ac}{x0 v:AV}(hx0:AcR Hi x0 l)(hl100:l.length<=100)(hsl: ∀a∈l,a.s.length<=1000)(h:PI Hi H At M L i X kv v)(hL:L<=300000)(hi:i<l.length):
  ∃H' X' kv' v',WY (dy (m+1)) (m+1) [x0, .ptr At 0,v, .int .i64 ((i:Nat):Int)] H=some (.norm [x0, .ptr At 0,v', .int .i64 ((i+1:Nat):Int)],H')/\PI Hi H' At M (L+200) (i+1) X' kv' v':=by
 have hx:AcR H x0 l:=Rw.stp hx0 h.prs fun _ _ x=>x
 obtain⟨A',o,i1,i2,i3⟩:=hx.at hi;obtain⟨a,ha⟩: ∃a,a=l[i]:=⟨_,rfl⟩;have has:=hsl _ (zR hi);rw[<-ha]at i2 has;have hk:=h.prs.ok;have lt:=h.t.lt;obtain⟨H1,A11,b1,p1,g1,m1,n1⟩:=box hk (.cells [.int .u8 ((0:Nat):Int), .int .i64 ((0:Nat):Int), .int .i64 ((0:Nat):Int), .int .i64 ((0:Nat):Int),S []] 29 1 false);obtain⟨H2,e2,g2,s2,n2⟩:=qX p1.ok g1 (l':=acV a) rfl rfl;have e2':stN 5 (.ptr A11 0) (.agg (acV a)) H1=some (qN,H2):=e2;have P2:Prs H H2:=p1.fresh s2 fun B hB=>by omega
 have N1:=p1.next;have N2:=s2.next
 have h2:=h.fresh P2;have i2':ldN 5 (.ptr A' o) H=some (.agg (acV a)):=i2;have hS:(AV.str 0 0)=S []:=rfl;have hln:lnSl x0=some (.int .i64 ((l.length:Nat):Int)):=hx.lnSl;have hiI:((i:Nat):Int)< ((l.length:Nat):Int):=by omega
 have rd: ∀ {Hx:AH},Hx.h.get A11=some (.cells (acV a) 29 1 false)->Eng.ld1 (.ptr A11 0) Hx=some (.int .u8 a.k)/\Eng.ld1 (.ptr A11 1) Hx=some (.int .i64 a.d)/\Eng.ld1 (.ptr A11 2) Hx=some (.int .i64 a.i)/\Eng.ld1 (.ptr A11 3) Hx=some (.int .i64 a.n)/\Eng.ld1 (.ptr A11 4) Hx=some (S a.s):=fun {Hx} gx=>⟨by rw[qM gx];rfl,by rw[qM gx];rfl,by rw[qM gx];rfl,by rw[qM gx];rfl,by rw[qM gx];rfl⟩
 obtain⟨r0,r1,r2,r3,r4⟩:=rd g2;by_cases k0:a.k=((0:Nat):Int)
 ·obtain⟨H3,H4,v',X',kv',c,e,e3,e4,hP,s3,p4⟩:=zMw m hm h2 (by omega) (by omega) has a.d a.i;have g3:H3.h.get A11=some (.cells (acV a) 29 1 false):=by rw[s3.keep _ (by omega) (by omega)];exact g2
  have g4:=Prs.get p4 s3.ok g3;obtain⟨_,q1,q2,_,q4⟩:=rd g3;obtain⟨H5,e5,p5⟩:=WC m hm (x0:=x0) (j:=i) hP (by omega) (by omega) (by omega) has g4;refine⟨H5,X',kv',v', ?_,hP.fresh p5⟩;simp(maxSteps:=999999)(disch:=omega) only[WY,eZ,hln,hiI,i1,i2',hS,b1,e2',r0,r1,r2,r4,k0,e3,qL,nth,q1,q2,q4,e4,nne,e5]
 ·by_cases k1:a.k=((1:Nat):Int)
  ·have k10: ¬((1:Nat):Int)=((0:Nat):Int):=by omega
   obtain⟨H3,H4,v',X',kv',c,e,e3,e4,hP,s3,p4⟩:=zKC m hm h2 (by omega) (by omega) has a.d;have g3:H3.h.get A11=some (.cells (acV a) 29 1 false):=by rw[s3.keep _ (by omega) (by omega)];exact g2
   have g4:=Prs.get p4 s3.ok g3;obtain⟨_,q1,_,_,q4⟩:=rd g3;obtain⟨H5,e5,p5⟩:=WC m hm (x0:=x0) (j:=i) hP (by omega) (by omega) (by omega) has g4;refine⟨H5,X',kv',v', ?_,hP.fresh p5⟩;simp(maxSteps:=999999)(disch:=omega) only[WY,zI7,eZ,hln,hiI,i1,i2',hS,b1,e2',r0,r1,r4,k1,k10,e3,qL,nth,q1,q4,e4,nne,e5]
  ·by_cases k2:a.k=((2:Nat):Int)
   ·have k20: ¬((2:Nat):Int)=((0:Nat):Int):=by omega
    have k21: ¬((2:Nat):Int)=((1:Nat):Int):=by omega
    obtain⟨H3,c,f,e,e3,e4,p3⟩:=zKB m hm h2 (by omega) (by omega) has a.d;have g3:=Prs.get p3 P2.ok g2;obtain⟨_,q1,_,_,q4⟩:=rd g3;have hP:=(h2.fresh p3).more (show L<=L+200 by omega) (Nat.le_succ i);obtain⟨H5,e5,p5⟩:=WC m hm (x0:=x0) (j:=i) hP (by omega) (by omega) (by omega) has g3;refine⟨H5,X,kv,v, ?_,hP.fresh p5⟩;simp(maxSteps:=999999)(disch:=omega) only[WY,zI7,zLh,eZ,hln,hiI,i1,i2',hS,b1,e2',r0,r1,r4,k2,k20,k21,e3,qL,nth,q1,q4,e4,nne,e5]
   ·obtain⟨H3,H4,H5,v1,w,e,c,e3,e4,e5,e6,p3,p5⟩:=zKA m hm (a0:=x0) (a1:= .ptr At 0) (a2:=v) (a3:= .int .i64 ((i:Nat):Int)) (a4:= .ptr A11 0) h2 (by omega) (by omega) a.d a.i a.n;have g3:=Prs.get p3 P2.ok g2;have g5:=Prs.get p5 P2.ok g2;obtain⟨_,q1,q2,q3,_⟩:=rd g3;have hP:=(h2.fresh p5).more (show L<=L+200 by omega) (Nat.le_succ i);obtain⟨H6,e7,p6⟩:=WC m hm (x0:=x0) (j:=i) hP (by omega) (by omega) (by omega) has g5;refine⟨H6,X,kv,v, ?_,hP.fresh p6⟩;simp(maxSteps:=999999)(disch:=omega) only[WY,zI7,zLh,zNA,eZ,hln,hiI,i1,i2',hS,b1,e2',r0,r1,r2,r3,k0,k1,k2,e3,qL,nth,q1,q2,q3,e4,e5,beq_self_eq_true,Bool.not_true,Bool.not_false,Bool.false_eq_true,if_false,nne,e6,e7]
theorem dirPlays_walk (m:Nat)(hm:700000000<=m){Hi:AH}(hk:Hi.ok){x0:AV}{l:List Ac}(hx:AcR Hi x0 l):
  ∃H',f3z (dy (m+1)) (m+1) [x0] Hi=some (.bool true,H')/\Prs Hi H':=by
 obtain⟨b,eb,hb⟩:=zIk (dy (m+1)) (m+1) (by omega) hx;have hz: ∀H,z6 (dy (m+1)) (m+1) [] H=some (.bool true,H):=fun H=>rfl
 cases hbb:b with
 | true=>
  rw[hbb]at eb;refine⟨Hi, ?_,Stp.refl hk⟩;simp(maxSteps:=999999)(disch:=omega) only[f3z,eZ,eb,hz]
 | false=>
 rw[hbb]at eb;obtain⟨hl,hsl⟩:=hb hbb;obtain⟨H1,At,M,e1,p1,hA,hM,t1⟩:=zIf (dy (m+1)) (m+1) (by omega) hk;have I1:PI Hi H1 At M 0 0 [] [] .nilSlice:=⟨p1,⟨hA,hM⟩,t1,zNR, .inl (Own.nil ..),fun B hB=>(Blk.nil.1 hB).elim,by simp,by simp⟩;have lp:=kI (b:=WY (dy (m+1)) (m+1)) l.length (fun i us H'=> ∃X kv v,us=[x0, .ptr At 0,v, .int .i64 ((i:Nat):Int)]/\PI Hi H' At M (200*i) i X kv v) (fun i us H' hi ⟨X,kv,v,hus,hI⟩=>by
  subst hus;obtain⟨H2,X',kv',v',e2,I2⟩:=zLn m hm hx hl hsl hI (by omega) hi;exact⟨_,H2,e2,X',kv',v',rfl,by rw[show 200*(i+1)=200*i+200 by omega];exact I2⟩) (m+1) _ H1 ⟨[],[], .nilSlice,rfl,I1⟩ (by omega)
 obtain⟨r,us,H2,e2,X,kv,v,rfl,hI⟩:=lp;have hx2:AcR H2 x0 l:=Rw.stp hx hI.prs fun _ _ x=>x
 have hln:lnSl x0=some (.int .i64 ((l.length:Nat):Int)):=hx2.lnSl;have last:qT (r+1) (WY (dy (m+1)) (m+1)) [x0, .ptr At 0,v, .int .i64 ((l.length:Nat):Int)] H2=some (.exit 0 [],H2):=qU (by simp(maxSteps:=999999)(disch:=omega) only[WY,eZ,hln,zS]);refine⟨H2, ?_,hI.prs⟩;simp(maxSteps:=999999)(disch:=omega) only[f3z,eZ,eb,hz,e1,e2,last,zNz]
end Go.Eng.Sh
end
section
namespace Go.Proofs.YtnnimbgajljgaaaGreat.dirPlays
open Go.ChangeShapes Go.WideShapes Go.ChangeAt Go.RowKit
open Go.ChangeMaps (open_string shut_string)
theorem zC4: Tryz.prog.cellsOf 29=5:=by kernel_rfl
theorem zIz: Tryz.prog.cellsOf 5=1:=by kernel_rfl
theorem XC: Tryz.prog.cellsOf 3=1:=by kernel_rfl
theorem zIy: Tryz.prog.cellsOf 9=1:=by kernel_rfl
abbrev Raw:=Int×Int×Int×Int×ByteArray
def zDj (s:Raw):List Value:=[.int .u8 s.1, .int .i64 s.2.1, .int .i64 s.2.2.1, .int .i64 s.2.2.2.1, .string s.2.2.2.2]
open Go.Eng.Sh (Ac acV AcR)
def zO4 (s:Raw):Ac:=⟨s.1,s.2.1,s.2.2.1,s.2.2.2.1,s.2.2.2.2.data.toList⟩
theorem zO3 (N:Nat)(s:Raw):acV (zO4 s)=(zDj s).map (Go.Eng.cellAV N):=by
 simp only[zDj,List.map_cons,List.map_nil,Go.Eng.cellAV_string,acV,zO4];rfl
set_option maxRecDepth 100000 in
theorem zKa {H:Type}{enc:TypeId×Value->H}{w:World}{base:Nat}{held:Bool}{fuel:Nat}{cs:List Value}{x:DataW H×List MemPlace}(h:DataW.trod enc Tryz.prog w base (fun _=>true) held fuel 29 cs=some x): ∃s:Raw,cs=zDj s/\True:=by
 obtain⟨xs,n,_,_,hl,hlen,hx⟩:=DataW.trod_struct Tryz.underlying29 h;rw[zC4]at hl
 match cs,hl with
 | [c0,c1,c2,c3,c4],_=>
  match xs,hlen with
  | [y0,y1,y2,y3,y4],_=>
   have k0:DataW.trod enc Tryz.prog w base (fun _=>true) held n 5 [c0]=some y0:=by
    have this:DataW.trod enc Tryz.prog w base (fun _=>true) held n 5 (List.take (Tryz.prog.cellsOf 5) (List.drop 0 [c0,c1,c2,c3,c4]))=some y0:=hx 0 _ rfl;rw[zIz]at this;exact this
   have k1:DataW.trod enc Tryz.prog w base (fun _=>true) held n 3 [c1]=some y1:=by
    have this:DataW.trod enc Tryz.prog w base (fun _=>true) held n 3 (List.take (Tryz.prog.cellsOf 3) (List.drop 1 [c0,c1,c2,c3,c4]))=some y1:=hx 1 _ rfl;rw[XC]at this;exact this
   have k2:DataW.trod enc Tryz.prog w base (fun _=>true) held n 3 [c2]=some y2:=by
    have this:DataW.trod enc Tryz.prog w base (fun _=>true) held n 3 (List.take (Tryz.prog.cellsOf 3) (List.drop 2 [c0,c1,c2,c3,c4]))=some y2:=hx 2 _ rfl;rw[XC]at this;exact this
   have k3:DataW.trod enc Tryz.prog w base (fun _=>true) held n 3 [c3]=some y3:=by
    have this:DataW.trod enc Tryz.prog w base (fun _=>true) held n 3 (List.take (Tryz.prog.cellsOf 3) (List.drop 3 [c0,c1,c2,c3,c4]))=some y3:=hx 3 _ rfl;rw[XC]at this;exact this
   have k4:DataW.trod enc Tryz.prog w base (fun _=>true) held n 9 [c4]=some y4:=by
    have this:DataW.trod enc Tryz.prog w base (fun _=>true) held n 9 (List.take (Tryz.prog.cellsOf 9) (List.drop 4 [c0,c1,c2,c3,c4]))=some y4:=hx 4 _ rfl;rw[zIy]at this;exact this
   clear hx h;obtain⟨a0,h0,_⟩:=DataW.trod_int Tryz.underlying5 k0;obtain⟨a1,h1,_⟩:=DataW.trod_int Tryz.underlying3 k1;obtain⟨a2,h2,_⟩:=DataW.trod_int Tryz.underlying3 k2;obtain⟨a3,h3,_⟩:=DataW.trod_int Tryz.underlying3 k3;obtain⟨a4,h4,_⟩:=DataW.trod_string Tryz.underlying9 k4;obtain rfl:=(List.cons.inj h0).1;obtain rfl:=(List.cons.inj h1).1;obtain rfl:=(List.cons.inj h2).1;obtain rfl:=(List.cons.inj h3).1;obtain rfl:=(List.cons.inj h4).1;exact⟨(a0,a1,a2,a3,a4),rfl,trivial⟩
instance:Inhabited Raw:=⟨(0,0,0,0, .empty)⟩
set_option maxRecDepth 100000 in
theorem zH3 {H:Type}{enc:TypeId×Value->H}{w:World}{base:Nat}{held:Bool}{v:Value}{d:DataW H}{ps:List MemPlace}(hv: ∃a len cap,v= .slice a len cap)(h:DataW.Trod enc Tryz.prog w base (fun _=>true) held 22 v d ps):
  ∃l:List Ac,AcR (Go.Eng.H0 w) (Go.Eng.argAV w.heap.size v) l:=by
 obtain⟨a0,len0,cap0,rfl⟩:=hv;obtain⟨fuel,hf⟩:=h;obtain⟨l,h1,h2⟩:=Go.Eng.srows_arg (α:=Raw) (k:=5) (by decide) (vals:=zDj) (fun _=>rfl) (good:=fun _=>True) Tryz.underlying22 zC4 (fun h=>zKa h) hf;refine⟨l.map zO4, ?_⟩;have e: ∀l:List Raw,(l.map zO4).flatMap acV=l.flatMap fun s=>(zDj s).map (Go.Eng.cellAV w.heap.size):=by
  intro l
  induction l with
  | nil=>rfl
  | cons s l ih=>rw[List.map_cons,zP,zP,zO3 w.heap.size s,ih]
 show Go.Eng.Rw 5 _ _ (l.map zO4).length _;rw[e,qA];exact h1
theorem own:ownKnob Tryz.prog.godebug=none:=by kernel_rfl
theorem laid:laidOutB Tryz.prog=true:=by kernel_rfl
set_option maxRecDepth 100000 in
theorem contract (H:Type)(enc:TypeId×Value->H)(W:World)(base:Nat)(args:Array Value)(ds gs:List (DataW H))(before:List MemPlace)
  (hval: ∀(j:Nat) t v, Tryz.f3.params[j]? =some t->args[j]? =some v->Value.okWide Tryz.prog W .any base t v)
  (hW:DataW.Whole enc Tryz.prog Tryz.f3.params.toList Rows.dirPlaysSpec.vars false W args.toList ds gs before):
  Calls Tryz.prog 3 args W fun e W'=> ∃v,e= .returned v/\Rows.dirPlaysSpec.post enc Tryz.prog Tryz.f3 false true false false W args v W':=by
 have hW':=hW;obtain⟨p,q,hA0,hV,rfl,hfz,hnd⟩:=hW;have hA:DataW.TrodAll enc Tryz.prog W 0 (fun _=>true) true Tryz.f3.params.toList args.toList ds p:=hA0;rw[Tryz.params3]at hA hval;obtain⟨v0,vs0,d0,ds0,p0,q0,hargs,rfl,rfl,h0,r0⟩:=trodAll_cons hA;obtain⟨rfl,rfl,rfl⟩:=trodAll_nil r0;obtain rfl:args= #[v0]:=by cases args;simp_all
 obtain⟨rfl,rfl⟩:=trodVars_none hV;clear hA0;have hlt0: ∀x∈p0,x.block<W.heap.size:=fun x hx=>hW'.lt x (by simp[hx])
 obtain⟨l,hN⟩:=zH3 (okWide_slice Tryz.underlying22 (hval 0 22 v0 rfl rfl)) h0;obtain⟨m,hm⟩: ∃m:Nat,700000000<=m:=⟨_,Nat.le_refl _⟩;obtain⟨H',hrun,hP⟩:=Go.Eng.Sh.dirPlays_walk m hm (Go.Eng.H0_ok W) hN;have hcall:=Go.Eng.calls_param (Go.Eng.Sh.f3z_ok (Go.Eng.Sh.dy_ok (m+1)) (m+1)) W (args:= #[v0]) (H':=H') hrun (fun A hA=>hP.keep A hA (fun x=>x));refine hcall.mono fun e W' ⟨he,hb⟩=> ?_
 subst he;simp only[List.append_nil]at hW';refine⟨_,rfl,_,_,_,[],p0++[],[],hW', ?_, ?_,rfl,hb.frame _,fun h=>by cases h⟩
 ·exact trodAll_cons_mk (shut_bool Tryz.underlying4 _) trodAll_mk0
 ·exact trodAll_cons_mk (Below.trod laid (by kernel_rfl) (of_decide_eq_true (by kernel_rfl)) h0 hb hlt0) trodAll_mk0
set_option maxRecDepth 100000 in
theorem lifted (os:Os)(started:os.Started)(H:Type)(enc:TypeId×Value->H):
  ReturnsInHanded {} Tryz.checked os 3 .any (Rows.dirPlaysSpec.pre6 enc Tryz.prog Tryz.f3 Rows.dirPlaysRow.domain false) (Rows.dirPlaysSpec.post enc Tryz.prog Tryz.f3 false true false false):=by
 refine returnsInHanded_of_change (C:= Tryz.checked) own started (by kernel_rfl) Tryz.func3
  (ChangeSpec.witness6 (enc:=enc) (C:= Tryz.checked) false ⟨#[], #[.slice none 0 0],[]⟩ 8 (by kernel_rfl) (by kernel_rfl) (by kernel_rfl) (by kernel_rfl)) ?_
 intro W base args ds gs before hval hW _ _;exact contract H enc W base args ds gs before hval hW
theorem holds:Rows.DirPlaysSaid:=
 OpenClaim.holds_of_wide 3 Tryz.f3 rfl rfl rfl rfl rfl rfl rfl ⟨rfl,rfl,rfl,rfl,rfl⟩ rfl rfl rfl rfl rfl (by kernel_rfl) Tryz.func3 (by kernel_rfl)
  (of_decide_eq_true (by kernel_rfl)) (by unfold Func.isWrapper;first | (rw[if_pos (by decide+kernel)];kernel_rfl) | (rw[if_neg (by decide+kernel)];exact⟨rfl,rfl⟩))
  (fun os started H enc _=>lifted os started H enc)
end Go.Proofs.YtnnimbgajljgaaaGreat.dirPlays
namespace Go.Proofs.YtnnimbgajljgaaaGreat
theorem dirPlays_holds:Rows.DirPlaysSaid:=dirPlays.holds
end Go.Proofs.YtnnimbgajljgaaaGreat
end
