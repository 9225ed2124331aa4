/- A checked evaluator for the program, and what it tells, part 7: no condition. -/
import Derived.Test.YtngkjhifpekkcaaGreatO6
import Derived.Test.YtngkjhifpekkcaaGreatRows
import Derived.ProofKit
import Derived.OpenShut
import Derived.Carry
set_option linter.all false
set_option linter.unusedVariables false
set_option linter.unusedSimpArgs false
set_option maxHeartbeats 8000000
set_option maxRecDepth 20000
section
namespace Go.Di
open Go.Nd (Str Kvs putP delP lookP Srt mayK)
open Go.Eng (ltS y6 y8 xV xB xA)
open Go.Bt (inP y9 fX)
open Go.Dr
def zKR (u:Nat):Str→Nat
 | []=>u
 | b::l=>zKR (Nat.xor u b.toNat*1099511628211 % 18446744073709551616) l
theorem BJ: ∀(s:Str) (u:Nat),u<18446744073709551616→zKR u s<18446744073709551616
 | [],_,h=>h
 | _::l,_,_=>BJ l _ (Nat.mod_lt _ (by omega))
theorem XI: ∀(s:Str) (b:UInt8) (u:Nat),zKR u (s++[b])=Nat.xor (zKR u s) b.toNat*1099511628211 % 18446744073709551616
 | [],_,_=>rfl
 | _::l,b,_=>XI l b _
def zCF (s:Str):Nat:=zKR 14695981039346656037 s
def yX (s:Str):Nat:=zCF s % 1024
theorem uN (s:Str):yX s<1024:=Nat.mod_lt _ (by omega)
def hasB (s:Str):Bool:=s.any fun b=>b==0||b==47
def fE (s:Str):Bool:= !(decide (s=[])||decide (s=[46])||decide (s=[46,46])||decide (s=[46,115,110,97,112,115,104,111,116]))&&decide (s.length≤32)&& !hasB s
theorem KM {s:Str}(h:fE s=true):s.length≤32:=by
 simp only[fE,z7,zD]at h;exact h.1.2
structure En where
 c:Nat
 i:Nat
 n:Str
def En.fine (e:En):Prop:=1≤e.c∧e.c≤262144∧1≤e.i∧e.i≤2147483647∧fE e.n=true∧yX e.n=(e.c - 1) / 256
def dU (d:Nat):Str:=101::dig d 4
def yE (d c:Nat):Str:=dU d++dig c 4
def wQ (e:En):Str:=dig e.i 4++e.n
def vW (d:Nat)(e:En):Str×Str:=(yE d e.c,wQ e)
def zHj (p:Str×Str):En:=⟨num (p.1.drop 5),num (p.2.take 4),p.2.drop 4⟩
theorem uW (d:Nat):(dU d).length=5:=by simp[dU,jM]
theorem bB (d c:Nat):(yE d c).length=9:=by simp[yE,uW,jM]
theorem QR {d:Nat}{e:En}(h:e.fine):zHj (vW d e)=e:=by
 obtain⟨h1,h2,h3,h4,_⟩:=h
 have a1:(yE d e.c).drop 5=dig e.c 4:=by rw[yE,List.drop_left' (uW d)]
 have a2:(wQ e).take 4=dig e.i 4:=by rw[wQ,List.take_left' (jM _ _)]
 have a3:(wQ e).drop 4=e.n:=by rw[wQ,List.drop_left' (jM _ _)]
 simp only[zHj,vW,a1,a2,a3]
 rw[uH (by omega),uH (by omega)]
theorem zJt (p:Str)(a b:Str):ltS (p++a) (p++b)=ltS a b:=by
 induction p with
 | nil=>rfl
 | cons x p ih=>rw[List.cons_append,List.cons_append,vN,ih]
theorem QA (d:Nat){a b:Nat}(ha:a<4294967296)(hb:b<4294967296):ltS (yE d a) (yE d b)=decide (a<b):=by
 rw[yE,yE,zJt,zBG,Nat.mod_eq_of_lt (by omega),Nat.mod_eq_of_lt (by omega)]
theorem zB7: ∀ {a b:Str} (x:Str),a.length=b.length→ltS a b=true→ltS (a++x) b=true
 | [],[],_,_,h=>by rw[y6]at h;cases h
 | u::a,v::b,x,hl,h=>by
  rw[xQ]at h
  rw[List.cons_append,xQ]
  simp only[Bool.or_eq_true,z7]at h⊢
  rcases h with h | ⟨h1,h2⟩
  ·exact .inl h
  ·exact .inr ⟨h1,zB7 x (by simpa using hl) h2⟩
theorem zBb {d e:Nat}(c:Nat)(h:d<e)(he:e<4294967296):ltS (yE d c) (dU e)=true:=by
 rw[yE]
 refine zB7 _ (by rw[uW,uW]) ?_
 rw[dU,dU,vN,zBG,Nat.mod_eq_of_lt (by omega),Nat.mod_eq_of_lt (by omega)]
 exact decide_eq_true h
theorem zGZ {d a b:Nat}(ha:a<4294967296)(hb:b<4294967296)(h:yE d a=yE d b):a=b:=by
 rw[yE,yE,List.append_cancel_left_eq]at h
 have:=congrArg num h
 rwa[uH (by omega),uH (by omega)]at this
theorem zLC {d a b c:Nat}{v:Str}(ha:a<4294967296)(hb:b<4294967296)(hc:c<4294967296):inP (yE d a) (yE d b) (yE d c,v)=(decide (a≤c)&&decide (c<b)):=by
 have hne:(yE d b).isEmpty=false:=by
  cases h:yE d b with
  | nil=>have:=bB d b;rw[h]at this;simp at this
  | cons _ _=>rfl
 simp only[inP,y9,hne,Bool.false_or,QA d hc ha,QA d hc hb]
 congr 1
 rw[← decide_not];simp
theorem zI8 {d a c:Nat}{v:Str}(hd:d<2147483648)(ha:a<4294967296)(hc:c<4294967296):inP (yE d a) (dU (d+1)) (yE d c,v)=decide (a≤c):=by
 simp only[inP,y9,QA d hc ha,zBb c (show d<d+1 by omega) (by omega),Bool.or_true,Bool.and_true]
 rw[← decide_not];simp
def fD (d:Nat)(kv:Kvs):Prop:=Srt kv∧ ∀p∈kv,inP (yE d 1) (dU (d+1)) p=true→ ∃e:En,e.fine∧p=vW d e
theorem zJJ {d a b:Nat}{p:Str×Str}(hd:d<2147483648)(ha:1≤a)(ha2:a<4294967296)(h:inP (yE d a) (yE d b) p=true):inP (yE d 1) (dU (d+1)) p=true:=by
 have hne:(yE d b).isEmpty=false:=by
  cases h:yE d b with
  | nil=>have:=bB d b;rw[h]at this;simp at this
  | cons _ _=>rfl
 simp only[inP,y9,hne,Bool.false_or,z7,Bool.not_eq_true',Bool.or_eq_true]at h⊢
 refine⟨?_, .inr (y8 h.2 (zBb b (by omega) (by omega)))⟩
 cases hb:ltS p.1 (yE d 1)with
 | false=>rfl
 | true=>
  have h1:yE d 1=yE d a∨ltS (yE d 1) (yE d a)=true:=by
   by_cases e:a=1
   ·exact .inl (by rw[e])
   ·exact .inr (by rw[QA d (by omega) ha2];exact decide_eq_true (by omega))
  have:=Bt.lt_of_lt_le hb h1
  rw[this]at h;cases h.1
theorem zH1 {d a:Nat}{p:Str×Str}(ha:1≤a)(ha2:a<4294967296)(h:inP (yE d a) (dU (d+1)) p=true):inP (yE d 1) (dU (d+1)) p=true:=by
 simp only[inP,z7,Bool.not_eq_true']at h⊢
 refine⟨?_,h.2⟩
 cases hb:ltS p.1 (yE d 1)with
 | false=>rfl
 | true=>
  have h1:yE d 1=yE d a∨ltS (yE d 1) (yE d a)=true:=by
   by_cases e:a=1
   ·exact .inl (by rw[e])
   ·exact .inr (by rw[QA d (by omega) ha2];exact decide_eq_true (by omega))
  have:=Bt.lt_of_lt_le hb h1
  rw[this]at h;cases h.1
def chE (d h:Nat)(kv:Kvs):List En:=(kv.filter (inP (yE d (h*256+1)) (yE d (h*256+257)))).map zHj
def liE (d b:Nat)(kv:Kvs):List En:=(kv.filter (inP (yE d (b+1)) (dU (d+1)))).map zHj
theorem BW {d:Nat} : ∀ {l:Kvs},(∀p∈l,∃e:En,e.fine∧p=vW d e)→l=(l.map zHj).map (vW d)∧ ∀e∈l.map zHj,e.fine
 | [],_=>⟨rfl,by simp⟩
 | p::l,h=>by
  obtain⟨e,he,rfl⟩:=h p (by simp)
  obtain⟨h1,h2⟩:=BW (l:=l) fun q hq=>h q (by simp[hq])
  rw[List.map_cons,List.map_cons,QR he, ← h1]
  refine⟨rfl,fun x hx=> ?_⟩
  rcases List.mem_cons.1 hx with rfl | hx
  ·exact he
  ·exact h2 x hx
theorem fD.chain {d h:Nat}{kv:Kvs}(f:fD d kv)(hd:d<2147483648)(hh:h<1024):kv.filter (inP (yE d (h*256+1)) (yE d (h*256+257)))=(chE d h kv).map (vW d)∧(∀e∈chE d h kv,e.fine∧yX e.n=h)∧ ∀e:En,e.fine→(e∈chE d h kv↔vW d e∈kv∧yX e.n=h):=by
 have hp: ∀p∈kv.filter (inP (yE d (h*256+1)) (yE d (h*256+257))),∃e:En,e.fine∧p=vW d e:=fun p hp=>by
  rw[List.mem_filter]at hp
  exact f.2 p hp.1 (zJJ hd (by omega) (by omega) hp.2)
 obtain⟨h1,h2⟩:=BW hp
 have hin: ∀e:En,e.fine→(inP (yE d (h*256+1)) (yE d (h*256+257)) (vW d e)=true↔yX e.n=h):=fun e he=>by
  obtain⟨q1,q2,_,_,_,q6⟩:=he
  rw[vW,zLC (by omega) (by omega) (by omega),q6]
  simp only[z7,zD]
  omega
 have h3: ∀e:En,e.fine→(e∈chE d h kv↔vW d e∈kv∧yX e.n=h):=fun e he=>by
  constructor
  ·intro hm
   have hm':vW d e∈kv.filter (inP (yE d (h*256+1)) (yE d (h*256+257))):=by rw[h1];exact List.mem_map_of_mem hm
   rw[List.mem_filter]at hm'
   exact⟨hm'.1,(hin e he).1 hm'.2⟩
  ·rintro⟨g1,g2⟩
   have:vW d e∈kv.filter (inP (yE d (h*256+1)) (yE d (h*256+257))):=List.mem_filter.2 ⟨g1,(hin e he).2 g2⟩
   have:=List.mem_map_of_mem (f:=zHj) this
   rwa[QR he]at this
 exact⟨h1,fun e he=>⟨h2 e he,((h3 e (h2 e he)).1 he).2⟩,h3⟩
theorem fD.list {d b:Nat}{kv:Kvs}(f:fD d kv)(hd:d<2147483648)(hb:b≤262144):kv.filter (inP (yE d (b+1)) (dU (d+1)))=(liE d b kv).map (vW d)∧(∀e∈liE d b kv,e.fine∧b<e.c)∧ ∀e:En,e.fine→(e∈liE d b kv↔vW d e∈kv∧b<e.c):=by
 have hp: ∀p∈kv.filter (inP (yE d (b+1)) (dU (d+1))),∃e:En,e.fine∧p=vW d e:=fun p hp=>by
  rw[List.mem_filter]at hp
  exact f.2 p hp.1 (zH1 (by omega) (by omega) hp.2)
 obtain⟨h1,h2⟩:=BW hp
 have hin: ∀e:En,e.fine→(inP (yE d (b+1)) (dU (d+1)) (vW d e)=true↔b<e.c):=fun e he=>by
  obtain⟨q1,q2,_,_,_,q6⟩:=he
  rw[vW,zI8 (by omega) (by omega) (by omega)]
  simp only[zD]
  omega
 have h3: ∀e:En,e.fine→(e∈liE d b kv↔vW d e∈kv∧b<e.c):=fun e he=>by
  constructor
  ·intro hm
   have hm':vW d e∈kv.filter (inP (yE d (b+1)) (dU (d+1))):=by rw[h1];exact List.mem_map_of_mem hm
   rw[List.mem_filter]at hm'
   exact⟨hm'.1,(hin e he).1 hm'.2⟩
  ·rintro⟨g1,g2⟩
   have:vW d e∈kv.filter (inP (yE d (b+1)) (dU (d+1))):=List.mem_filter.2 ⟨g1,(hin e he).2 g2⟩
   have:=List.mem_map_of_mem (f:=zHj) this
   rwa[QR he]at this
 exact⟨h1,fun e he=>⟨h2 e he,((h3 e (h2 e he)).1 he).2⟩,h3⟩
def xY (d:Nat)(nm:Str)(kv:Kvs):Option En:=(chE d (yX nm) kv).find? fun e=>decide (e.n=nm)
theorem fD.found {d:Nat}{nm:Str}{kv:Kvs}{e:En}(f:fD d kv)(hd:d<2147483648)(h:xY d nm kv=some e):e.fine∧vW d e∈kv∧e.n=nm:=by
 obtain⟨_,h2,h3⟩:=f.chain hd (uN nm)
 have hm:=List.mem_of_find?_eq_some h
 have hn:=List.find?_some h
 exact⟨(h2 e hm).1,((h3 e (h2 e hm).1).1 hm).1,of_decide_eq_true hn⟩
theorem fD.find_none {d:Nat}{nm:Str}{kv:Kvs}(f:fD d kv)(hd:d<2147483648):xY d nm kv=none↔ ∀e:En,e.fine→vW d e∈kv→e.n≠nm:=by
 obtain⟨_,h2,h3⟩:=f.chain hd (uN nm)
 rw[xY,List.find?_eq_none]
 constructor
 ·intro h e he hm hn
  exact h e ((h3 e he).2 ⟨hm,by rw[hn]⟩) (decide_eq_true hn)
 ·intro h e he hn
  exact h e (h2 e he).1 ((h3 e (h2 e he).1).1 he).1 (of_decide_eq_true hn)
def aB (l:List En)(p:Nat):Bool:=l.any fun e=>(e.c - 1) % 256==p
def aD (l:List En):Option Nat:=(List.range 256).find? fun p=> !aB l p
theorem fD.put {d:Nat}{kv:Kvs}{e:En}(f:fD d kv)(he:e.fine):fD d (putP (yE d e.c) (wQ e) kv):=
 ⟨Nd.srt_put _ _ f.1,fun p hp hi=>by
  rcases(kX f.1).1 hp with rfl | ⟨h,_⟩
  ·exact⟨e,he,rfl⟩
  ·exact f.2 p h hi⟩
theorem fD.del {d:Nat}{kv:Kvs}(f:fD d kv)(k:Str):fD d (delP k kv):=
 ⟨Nd.srt_del _ f.1,fun p hp hi=>f.2 p (Nd.mem_del hp) hi⟩
theorem fD.free {d:Nat}{nm:Str}{kv:Kvs}{i p:Nat}(f:fD d kv)(hd:d<2147483648)(hp:aD (chE d (yX nm) kv)=some p)(hi:1≤i)(hi2:i≤2147483647)(hm:fE nm=true):
  p<256∧(⟨yX nm*256+p+1,i,nm⟩:En).fine∧ ∀q∈kv,q.1≠yE d (yX nm*256+p+1):=by
 have h1:=List.mem_of_find?_eq_some hp
 have h2:=List.find?_some hp
 rw[List.mem_range]at h1
 have hh:=uN nm
 have hf:(⟨yX nm*256+p+1,i,nm⟩:En).fine:=⟨by simp only;omega,by simp only;omega,hi,hi2,hm,by simp only;omega⟩
 refine⟨h1,hf,fun q hq e=> ?_⟩
 obtain⟨_,g2,g3⟩:=f.chain hd hh
 have hin:inP (yE d 1) (dU (d+1)) q=true:=by
  obtain⟨a,b⟩:=q
  simp only at e
  rw[e,zI8 hd (by omega) (by omega)];exact decide_eq_true (by omega)
 obtain⟨x,hx,rfl⟩:=f.2 q hq hin
 have hc:=zGZ (d:=d) (by have:=hx.2.1;omega) (by omega) e
 have hxh:yX x.n=yX nm:=by rw[hx.2.2.2.2.2,hc];omega
 have hxm:=(g3 x hx).2 ⟨hq,hxh⟩
 simp only[aB,Bool.not_eq_true',List.any_eq_false,beq_iff_eq]at h2
 exact h2 x hxm (by rw[hc];omega)
theorem zK3 {k v:Str}{kv:Kvs}(hs:Srt kv)(hn: ∀q∈kv,q.1≠k):delP k (putP k v kv)=kv:=by
 refine Dr.srt_ext (Nd.srt_del _ (Nd.srt_put _ _ hs)) hs fun p=> ?_
 rw[gK (Nd.srt_put _ _ hs),kX hs]
 constructor
 ·rintro⟨rfl | ⟨h,_⟩,h2⟩
  ·exact absurd rfl h2
  ·exact h
 ·exact fun h=>⟨.inr ⟨h,hn p h⟩,hn p h⟩
theorem fD.find_put {d:Nat}{nm:Str}{kv:Kvs}{e:En}(f:fD d kv)(hd:d<2147483648)(he:e.fine)(hn:e.n=nm)(hno:xY d nm kv=none):xY d nm (putP (yE d e.c) (wQ e) kv)=some e:=by
 have f':=f.put he
 cases hf:xY d nm (putP (yE d e.c) (wQ e) kv)with
 | none=>
  exact absurd hn ((f'.find_none hd).1 hf e he ((kX f.1).2 (.inl rfl)))
 | some x=>
  obtain⟨g1,g2,g3⟩:=f'.found hd hf
  rcases(kX f.1).1 g2 with h | ⟨h,_⟩
  ·have h':vW d x=vW d e:=h
   have:=congrArg zHj h'
   rw[QR g1,QR he]at this
   rw[this]
  ·exact absurd g3 ((f.find_none hd).1 hno x g1 h)
end Go.Di
end
section
namespace Go.Eng
theorem zAt {a b:Nat}(ha:a<18014398509481984)(hb:b<256):qN .or (.int .i64 ((a*256:Nat):Int)) (.int .i64 (b:Int))=some (.int .i64 (((a*256+b):Nat):Int)):=by
 have h3:a*256||| b=a*256+b:=by
  have:=Nat.two_pow_add_eq_or_of_lt (b:=b) (i:=8) (by omega) a
  rw[Nat.mul_comm a 256];exact this.symm
 have hk:keq .i64 .i64=true:=rfl
 have hA:BitVec.ofInt 64 ((a*256:Nat):Int)=BitVec.ofNat 64 (a*256):=BitVec.ofInt_natCast _ _
 have hB:BitVec.ofInt 64 (b:Int)=BitVec.ofNat 64 b:=BitVec.ofInt_natCast _ _
 have hv:(BitVec.ofNat 64 (a*256)||| BitVec.ofNat 64 b).toNat=a*256+b:=by
  rw[BitVec.toNat_or,BitVec.toNat_ofNat,BitVec.toNat_ofNat,Nat.mod_eq_of_lt (by omega),Nat.mod_eq_of_lt (by omega),h3]
 have h6:qN .or (.int .i64 (.ofNat (a*256))) (.int .i64 (.ofNat b))=gY.slow .or .i64 (.ofNat (a*256)) (.ofNat b):=by
  simp only[qN,xP,hk,cond_true,gY,IntKind.signed,Bool.not_true,Bool.false_and,cond_false]
 have h7:gY.slow .or .i64 (.ofNat (a*256)) (.ofNat b)=some (.int .i64 ((a*256+b:Nat):Int)):=by
  have h8:gY.slow .or .i64 (.ofNat (a*256)) (.ofNat b)=fI (IntKind.wrap .i64 ((BitVec.ofInt 64 ((a*256:Nat):Int)||| BitVec.ofInt 64 (b:Int)).toNat:Nat)) (fun n=>some (.int .i64 n)):=rfl
  rw[h8,zA7,hA,hB,hv,wrap_i64 (by omega) (by omega)]
 exact h6.trans h7
theorem US {a b:Nat}(ha:a<18446744073709551616)(hb:b<256):qN .xor (.int .u64 ((a:Nat):Int)) (.int .u64 (b:Int))=some (.int .u64 ((Nat.xor a b:Nat):Int))∧Nat.xor a b<18446744073709551616:=by
 have h1:Nat.blt a (Z0 .u64)=true:=by rw[zH];exact ha
 have h2:Nat.blt b (Z0 .u64)=true:=by rw[zH];exact Nat.lt_trans hb (by decide)
 have hl:Nat.xor a b<18446744073709551616:=Nat.xor_lt_two_pow (n:=64) ha (Nat.lt_trans hb (by decide))
 have hk:keq .u64 .u64=true:=rfl
 have h5:IntKind.wrap .u64 ((Nat.xor a b:Nat):Int)=((Nat.xor a b:Nat):Int):=by rw[wrap_u64];omega
 have h4:gY .xor .u64 (.ofNat a) (.ofNat b)=some (.int .u64 ((Nat.xor a b:Nat):Int)):=by
  simp only[gY,IntKind.signed,Bool.not_false,h1,h2,Bool.and_self,cond_true,kU,Int.ofNat_eq_natCast,h5]
 have h6:qN .xor (.int .u64 (.ofNat a)) (.int .u64 (.ofNat b))=gY .xor .u64 (.ofNat a) (.ofNat b):=by simp only[qN,xP,hk,cond_true]
 exact⟨h6.trans h4,hl⟩
theorem zHF {a:Nat}(ha:a<18446744073709551616):qN .and (.int .u64 ((a:Nat):Int)) (.int .u64 ((1023:Nat):Int))=some (.int .u64 ((a % 1024:Nat):Int)):=by
 have h1:Nat.blt a (Z0 .u64)=true:=by rw[zH];exact ha
 have h2:Nat.blt 1023 (Z0 .u64)=true:=rfl
 have hl:Nat.land a 1023=a % 1024:=Nat.and_two_pow_sub_one_eq_mod a 10
 have hk:keq .u64 .u64=true:=rfl
 have h5:IntKind.wrap .u64 ((a % 1024:Nat):Int)=((a % 1024:Nat):Int):=by rw[wrap_u64];omega
 have h4:gY .and .u64 (.ofNat a) (.ofNat 1023)=some (.int .u64 ((a % 1024:Nat):Int)):=by
  simp only[gY,IntKind.signed,Bool.not_false,h1,h2,Bool.and_self,cond_true,hl,kU,Int.ofNat_eq_natCast,h5]
 have h6:qN .and (.int .u64 (.ofNat a)) (.int .u64 (.ofNat 1023))=gY .and .u64 (.ofNat a) (.ofNat 1023):=by simp only[qN,xP,hk,cond_true]
 exact h6.trans h4
end Go.Eng
namespace Go.Eng.Sh
open Go.Nd (Ptr yF qO Kvs Srt)
open Go.Bt Go.Dr Go.Di
theorem slA4 (A:Nat):gG 4 1 (.ptr A 0) none none none=some (.slice A 0 4 8):=rfl
theorem fU (D:Dyn)(n:Nat)(hn:100≤n){H:AH}(hk:H.ok)(x:Nat)(hx:x<9223372036854775808):
  ∃H',f89 D n [.int .i64 ((x:Nat):Int)] H=some (S (dig x 4),H')∧Prs H H':=by
 obtain⟨H1,A,b1,p1,g1,m1,n1⟩:=box hk (.cells (bW x 4 0) 232 1 false)
 have hb1: ∀K,bA (some (.cells [(.int .u8 ((0:Nat):Int)),(.int .u8 ((0:Nat):Int)),(.int .u8 ((0:Nat):Int)),(.int .u8 ((0:Nat):Int))] 232 1 false,fun A=> .ptr A 0)) H K=K (.ptr A 0) H1:=fun K=>b1 _ K
 have lp:=vO (b:=zEE D n) 4 (fun i us H'=>us=[.int .i64 ((x:Nat):Int), .ptr A 0, .int .i64 ((i:Nat):Int)]∧Prs H H'∧H'.h.get A=some (.cells (bW x 4 i) 232 1 false)) (fun i us H' hi ⟨hus,P,g⟩=>by
  subst hus
  obtain⟨H2,e2,g2,s2⟩:=zI5 P.ok g (o:=i) (x:= .int .u8 ((x / 256 ^ (4 - 1 - i) % 256:Nat):Int)) rfl (by simp[bW];omega)
  rw[zCt x 4 hi]at g2
  refine⟨_,H2, ?_,rfl,P.fresh s2 (fun B hB=>by omega),g2⟩
  have hs2:((3:Nat):Int) - ((i:Nat):Int)=((4 - 1 - i:Nat):Int):=by omega
  have hm8:((8:Nat):Int)*((4 - 1 - i:Nat):Int)=((8*(4 - 1 - i):Nat):Int):=by omega
  have hpw:(2:Nat) ^ (8*(4 - 1 - i))=256 ^ (4 - 1 - i):=zDO _
  have hshr:qN .shr (.int .i64 ((x:Nat):Int)) (.int .i64 ((8*(4 - 1 - i):Nat):Int))=some (.int .i64 ((x / 256 ^ (4 - 1 - i):Nat):Int)):=by
   rw[zBO _ _ (by omega) (show 8*(4 - 1 - i)≤64 by omega), ← hpw]
   congr 2
   all_goals(rw[Int.natCast_ediv,Int.natCast_pow];rfl)
  have hw:IntKind.wrap .u8 ((x / 256 ^ (4 - 1 - i):Nat):Int)=((x / 256 ^ (4 - 1 - i) % 256:Nat):Int):=by rw[wrap_u8];omega
  have hix:QD 4 1 (.ptr A 0) (.int .i64 ((i:Nat):Int))=some (.ptr A i):=by rw[hU 4 A 0 .i64 i rfl hi,Nat.zero_add]
  have hiI:((i:Nat):Int)< ((4:Nat):Int):=by omega
  have hi1:((i:Nat):Int)+((1:Nat):Int)=((i+1:Nat):Int):=by omega
  simp(maxSteps:=999999)(disch:=omega) only[zEE,eZ,hiI,hs2,hm8,hshr,hw,hix,e2,hi1]) n _ H1 ⟨rfl,p1,g1⟩ (by omega)
 obtain⟨r,us,H2,e2,rfl,P2,g2⟩:=lp
 refine⟨H2, ?_,P2⟩
 have last:qU (r+1) (zEE D n) [.int .i64 ((x:Nat):Int), .ptr A 0, .int .i64 ((4:Nat):Int)] H2=some (.exit 0 [.ptr A 0],H2):=yB (by simp only[zEE,eZ,zX])
 have hcv:zGi (.slice A 0 4 8) H2=some (S (dig x 4)):=WL (n:=4) ⟨by simp[dK,jM], .inr (.inr ⟨_,_,_,_,_,_,_,rfl,g2,P2.ok.lt g2,by simp[bW],by
  rw[zFJ,List.drop_zero,zK (by simp[bW]),bW]
  refine List.map_congr_left fun j hj=> ?_
  rw[if_pos (by simpa using hj)]⟩)⟩ (by simp)
 simp(maxSteps:=999999)(disch:=omega) only[f89,eZ,hb1,e2,last,zLJ,slA4,hcv]
theorem WI (D:Dyn)(n:Nat)(hn:100≤n){H:AH}(hk:H.ok){d c:Nat}(hd:d<9223372036854775808)(hc:c<9223372036854775808):
  ∃H',f88 D n [.int .i64 ((d:Nat):Int), .int .i64 ((c:Nat):Int)] H=some (S (yE d c),H')∧Prs H H':=by
 obtain⟨H1,e1,p1⟩:=fU D n hn hk d hd
 obtain⟨H2,e2,p2⟩:=fU D n hn p1.ok c hc
 refine⟨H2, ?_,p1.trans p2⟩
 have hS:(AV.str 1 101)=S [101]:=rfl
 have h1:kD .add (S [101]) (S (dig d 4))=some (S (dU d)):=by rw[dP _ _ (by simp[jM])];rfl
 have h2:kD .add (S (dU d)) (S (dig c 4))=some (S (yE d c)):=by rw[dP _ _ (by simp[jM,uW])];rfl
 simp(maxSteps:=999999)(disch:=omega) only[f88,eZ,hS,e1,h1,e2,h2]
theorem UC (D:Dyn)(n:Nat)(hn:100≤n){H:AH}(s:Str)(hs:4≤s.length):f129 D n [S s] H=some (.int .i64 ((num (s.take 4):Nat):Int),H):=by
 have lp:qU n (zBz D n) [S s, .int .i64 ((0:Nat):Int), .int .i64 ((0:Nat):Int)] H=some (.exit 0 [.int .i64 ((num (s.take 4):Nat):Int)],H):=by
  refine wM (fun i=>[S s, .int .i64 ((num (s.take i):Nat):Int), .int .i64 ((i:Nat):Int)]) 4 (fun i hi=> ?_) (fun k=> ?_) n (by omega)
  ·have hb:=zLh (s.take i) (i:=3) (by simp;omega)
   have h7:(256:Nat) ^ 3=16777216:=by decide
   have hx:=QC s .i64 (show i<s.length by omega)
   have hsh:qN .shl (.int .i64 ((num (s.take i):Nat):Int)) (.int .u64 ((8:Nat):Int))=some (.int .i64 ((num (s.take i)*256:Nat):Int)):=by
    rw[zHD _ _ _ (by decide)]
    have h8:(2:Int) ^ 8=256:=by decide
    rw[h8,wrap_i64 (by omega) (by omega)]
    congr 2
   have hc:=(s[i]).toNat_lt
   have hor:=zAt (a:=num (s.take i)) (b:=(s[i]).toNat) (by omega) (by omega)
   have hw:IntKind.wrap .i64 (((s[i]).toNat:Nat):Int)=(((s[i]).toNat:Nat):Int):=wrap_i64 (by omega) (by omega)
   have hiI:((i:Nat):Int)< ((4:Nat):Int):=by omega
   have hi1:((i:Nat):Int)+((1:Nat):Int)=((i+1:Nat):Int):=by omega
   simp(maxSteps:=999999)(disch:=omega) only[zBz,eZ,hiI,hsh,hx,hw,hor,hi1,zGM s (show i<s.length by omega)]
  ·refine yB ?_
   simp only[zBz,eZ,zX]
 simp only[f129,eZ,lp,zIv]
theorem zK0 (D:Dyn)(n:Nat){H:AH}(s:Str)(hn:s.length<n)(hs:s.length≤1000000000):f124 D n [S s] H=some (.int .u64 ((zCF s:Nat):Int),H):=by
 have lp:qU n (zBw D n) [.int .u64 ((14695981039346656037:Nat):Int),S s, .int .i64 ((s.length:Nat):Int), .int .i64 ((0:Nat):Int)] H=some (.exit 0 [.int .u64 ((zCF s:Nat):Int)],H):=by
  refine wM (fun i=>[.int .u64 ((zCF (s.take i):Nat):Int),S s, .int .i64 ((s.length:Nat):Int), .int .i64 ((i:Nat):Int)]) s.length (fun i hi=> ?_) (fun k=> ?_) n (by omega)
  ·have hl:zCF (s.take i)<18446744073709551616:=BJ _ _ (by omega)
   have hx:=QC s .i64 hi
   have hc:=(s[i]).toNat_lt
   obtain⟨hxor,hxl⟩:=US (a:=zCF (s.take i)) (b:=(s[i]).toNat) hl (by omega)
   have hw:IntKind.wrap .u64 (((s[i]).toNat:Nat):Int)=(((s[i]).toNat:Nat):Int):=by rw[wrap_u64];omega
   have hmul:qN .mul (.int .u64 ((Nat.xor (zCF (s.take i)) (s[i]).toNat:Nat):Int)) (.int .u64 ((1099511628211:Nat):Int))=some (.int .u64 ((zCF (s.take (i+1)):Nat):Int)):=by
    rw[zBR,wrap_u64,zM hi]
    have e:zCF (s.take i++[s[i]])=Nat.xor (zCF (s.take i)) (s[i]).toNat*1099511628211 % 18446744073709551616:=XI _ _ _
    rw[e,Int.natCast_emod,Int.natCast_mul];rfl
   have hiI:((i:Nat):Int)< ((s.length:Nat):Int):=by omega
   have hi1:((i:Nat):Int)+((1:Nat):Int)=((i+1:Nat):Int):=by omega
   simp(maxSteps:=999999)(disch:=omega) only[zBw,eZ,hiI,hx,hw,hxor,hmul,hi1]
  ·refine yB ?_
   simp only[zBw,eZ,zX,q9]
 simp only[f124,f153,eZ,jY,lp,zIp]
theorem WJ (D:Dyn)(n:Nat){H:AH}(s:Str)(hn:s.length<n)(hs:s.length≤1000000000):f83 D n [S s] H=some (.int .i64 ((yX s:Nat):Int),H):=by
 have hl:zCF s<18446744073709551616:=BJ _ _ (by omega)
 have h1:=zHF hl
 have hh:=uN s
 have hw:IntKind.wrap .i64 ((zCF s % 1024:Nat):Int)=((yX s:Nat):Int):=wrap_i64 (by omega) (by omega)
 simp only[f83,eZ,zK0 D n s hn hs,h1,hw]
theorem kY (D:Dyn)(n:Nat){H:AH}(x:Int):f84 D n [.int .i64 x] H=some (.bool (decide (1≤x)&&decide (x≤2147483647)),H):=by
 by_cases h1:(1:Int)≤x
 ·by_cases h2:x≤2147483647
  ·have a1:((1:Nat):Int)≤x:=by omega
   have a2:x≤((2147483647:Nat):Int):=by omega
   simp only[f84,eZ,a1,a2,h1,h2,decide_true,Bool.and_self]
  ·have a1:((1:Nat):Int)≤x:=by omega
   have a2: ¬x≤((2147483647:Nat):Int):=by omega
   simp only[f84,eZ,a1,a2,h1,h2,decide_true,decide_false,Bool.and_false]
 ·have a1: ¬((1:Nat):Int)≤x:=by omega
  simp only[f84,eZ,a1,h1,decide_false,Bool.false_and]
theorem zKb (D:Dyn)(n:Nat){H:AH}(s:Str)(hs:s.length<4294967281):zKv D n [S s, .str 2 12032] H=some (.bool (hasB s),H):=by
 have h1:Nat.blt s.length 4294967281=true:=by rw[zH];exact hs
 have h2:Nat.beq 12032 12032=true:=rfl
 simp only[zKv,zHu,S,h1,h2,Bool.and_self,cond_true,QG,hasB]
theorem zAm (D:Dyn)(n:Nat){H:AH}(s:Str)(hs:s.length<4294967281):f85 D n [S s] H=some (.bool (fE s),H):=by
 have e0:(AV.str 0 0)=S []:=rfl
 have e1:(AV.str 1 46)=S [46]:=rfl
 have e2:(AV.str 2 11822)=S [46,46]:=rfl
 have e3:(AV.str 9 2147850105812604056366)=S [46,115,110,97,112,115,104,111,116]:=rfl
 have hc:=zKb D n (H:=H) s hs
 by_cases h0:s=[]
 ·have r:fE s=false:=by rw[h0];decide
  have q:_=True:=eq_true h0
  simp(config:= { maxSteps:=1000000}) only[f85,zAb,zAa,zA9,eZ,e0,e1,e2,e3,jK,q,r]
 by_cases h1:s=[46]
 ·have r:fE s=false:=by rw[h1];decide
  have q:_=True:=eq_true h1
  simp(config:= { maxSteps:=1000000}) only[f85,zAb,zAa,zA9,eZ,e0,e1,e2,e3,jK,h0,q,r]
 by_cases h2:s=[46,46]
 ·have r:fE s=false:=by rw[h2];decide
  have q:_=True:=eq_true h2
  simp(config:= { maxSteps:=1000000}) only[f85,zAb,zAa,zA9,eZ,e0,e1,e2,e3,jK,h0,h1,q,r]
 by_cases h3:s=[46,115,110,97,112,115,104,111,116]
 ·have r:fE s=false:=by rw[h3];decide
  have q:_=True:=eq_true h3
  simp(config:= { maxSteps:=1000000}) only[f85,zAb,zAa,zA9,eZ,e0,e1,e2,e3,jK,h0,h1,h2,q,r]
 by_cases hl:s.length≤32
 ·have r:fE s= !hasB s:=by simp[fE,h0,h1,h2,h3,hl]
  have hlI:((s.length:Nat):Int)≤((32:Nat):Int):=by omega
  simp(config:= { maxSteps:=1000000}) only[f85,zAb,zAa,zA9,eZ,e0,e1,e2,e3,jK,h0,h1,h2,h3,jY,hlI,hc,r]
 ·have r:fE s=false:=by simp[fE,hl]
  have hlI: ¬((s.length:Nat):Int)≤((32:Nat):Int):=by omega
  simp(config:= { maxSteps:=1000000}) only[f85,zAb,zAa,zA9,eZ,e0,e1,e2,e3,jK,h0,h1,h2,h3,jY,hlI,r]
theorem avI (k:IntKind)(z:Int):aveq (.int k z) (.int k z)=true:=by simp[aveq,k9,kB]
theorem chkI (k:IntKind)(z:Int)(K:Rs):chk (some (.int k z)) (.int k z) K=K:=yZ rfl (avI _ _)
def sdV (d:Nat)(e:En):List AV:=[S e.n, .int .i64 ((e.i:Nat):Int), .int .i64 ((e.c:Nat):Int),S (yE d e.c), .bool true]
abbrev sd0:List AV:=[S [], .int .i64 ((0:Nat):Int), .int .i64 ((0:Nat):Int),S [], .bool false]
theorem zII {A:Nat}{H:AH}{l:List AV}{e:TypeId}(h:H.h.get A=some (.cells l e 1 false))(hl:l.length=5):ldN 5 (.ptr A 0) H=some (.agg l):=by
 rw[qP h,j5 _ _ _ (.inr (by omega)),List.drop_zero, ← hl,q9];rfl
theorem zLa {c:Nat}(h:c<1000000):qN .quo (.int .i64 ((c:Nat):Int)) (.int .i64 ((256:Nat):Int))=some (.int .i64 ((c / 256:Nat):Int)):=by
 rw[zBP _ _ _ (by omega),Int.tdiv_eq_ediv_of_nonneg (by omega),wrap_i64 (by omega) (by omega)]
 rfl
theorem zL5 {c:Nat}(h:c<1000000):qN .rem (.int .i64 ((c:Nat):Int)) (.int .i64 ((256:Nat):Int))=some (.int .i64 ((c % 256:Nat):Int)):=by
 rw[zHE _ _ _ (by omega),Int.tmod_eq_emod_of_nonneg (by omega)]
 rfl
theorem zBE (D:Dyn)(n:Nat)(hn:100≤n){H:AH}(hk:H.ok){d:Nat}{e:En}(hf:e.fine): ∃H',f92 D n [.agg [S (yE d e.c),S (wQ e)]] H=some (.tuple [.agg (sdV d e), .bool true],H')∧Prs H H':=by
 obtain⟨f1,f2,f3,f4,f5,f6⟩:=hf
 have f7:=KM f5
 obtain⟨H1,A1,b1,p1,g1,m1,n1⟩:=box hk (.cells [S (yE d e.c),S (wQ e)] 48 1 false)
 obtain⟨H2,A2,b2,p2,g2,m2,n2⟩:=box p1.ok (.cells sd0 174 1 false)
 obtain⟨H3,A4,b3,p3,g3,m3,n3⟩:=box p2.ok (.cells sd0 174 1 false)
 obtain⟨H4,e4,g4,s4,_⟩:=qX p3.ok g3 (l':=[S [], .int .i64 ((0:Nat):Int), .int .i64 ((0:Nat):Int),S (yE d e.c), .bool false]) rfl rfl
 have e4':stN 5 (.ptr A4 0) (.agg [S [], .int .i64 ((0:Nat):Int), .int .i64 ((0:Nat):Int),S (yE d e.c), .bool false]) H3=some (qL,H4):=e4
 obtain⟨H5,e5,g5,s5⟩:=zI5 s4.ok g4 (o:=2) (x:= .int .i64 ((e.c:Nat):Int)) rfl (by simp)
 obtain⟨H6,e6,g6,s6⟩:=zI5 s5.ok g5 (o:=1) (x:= .int .i64 ((e.i:Nat):Int)) rfl (by simp)
 obtain⟨H7,e7,g7,s7⟩:=zI5 s6.ok g6 (o:=0) (x:=S e.n) rfl (by simp)
 obtain⟨H8,e8,g8,s8⟩:=zI5 s7.ok g7 (o:=4) (x:= .bool true) rfl (by simp)
 have g8:H8.h.get A4=some (.cells (sdV d e) 174 1 false):=g8
 have N1:=p1.next;have N2:=p2.next;have N3:=p3.next;have N4:=s4.next;have N5:=s5.next;have N6:=s6.next;have N7:=s7.next;have N8:=s8.next
 have S38:Stp (fun B=>B=A4) H3 H8:=(((s4.trans s5).trans s6).trans s7).trans s8
 have P8:Prs H H8:=((p1.trans p2).trans p3).fresh S38 fun B hB=>by omega
 have g28:H8.h.get A2=some (.cells sd0 174 1 false):=by rw[S38.keep _ (by omega) (by omega)];exact Prs.get p3 p2.ok g2
 obtain⟨H9,e9,g9,s9,n9⟩:=qX P8.ok g28 (l':=sdV d e) rfl rfl
 have e9':stN 5 (.ptr A2 0) (.agg (sdV d e)) H8=some (qL,H9):=e9
 refine⟨H9, ?_,P8.fresh s9 fun B hB=>by omega⟩
 have l1: ∀ {H':AH},H'.h.get A1=some (.cells [S (yE d e.c),S (wQ e)] 48 1 false)→ld1 (.ptr A1 0) H'=some (S (yE d e.c))∧ld1 (.ptr A1 1) H'=some (S (wQ e)):=fun g=>⟨by rw[qK g];rfl,by rw[qK g];rfl⟩
 have q2:=Prs.get p2 p1.ok g1
 have q3:=Prs.get p3 p2.ok q2
 have k4: ∀ {H':AH},Stp (fun B=>B=A4) H3 H'→H'.h.get A1=some (.cells [S (yE d e.c),S (wQ e)] 48 1 false):=fun s=>by rw[s.keep _ (by omega) (by omega)];exact q3
 have q4:=k4 s4;have q5:=k4 (s4.trans s5);have q6:=k4 ((s4.trans s5).trans s6)
 have hS:(AV.str 0 0)=S []:=rfl
 have hkl:kJ (S (yE d e.c))=some (.int .i64 ((9:Nat):Int)):=by rw[jY,bB]
 have vl:(wQ e).length=4+e.n.length:=by simp[wQ,jM]
 have hvl:kJ (S (wQ e))=some (.int .i64 ((4+e.n.length:Nat):Int)):=by rw[jY,vl]
 have t9: ¬(((9:Nat):Int)≠((9:Nat):Int)):=by omega
 have t4: ¬((4+e.n.length:Nat):Int)< ((4:Nat):Int):=by omega
 have t1: ¬((e.c:Nat):Int)< ((1:Nat):Int):=by omega
 have t2: ¬((262144:Nat):Int)< ((e.c:Nat):Int):=by omega
 have kd:(yE d e.c).drop 5=dig e.c 4:=by rw[yE,List.drop_left' (uW d)]
 have c1:aU (S (yE d e.c)) (some (.int .i64 ((5:Nat):Int))) none=some (S (dig e.c 4)):=by rw[zAM _ _ (by omega) (by rw[bB];decide)];exact congrArg (fun z=>some (S z)) kd
 have vd:(wQ e).drop 4=e.n:=by rw[wQ,List.drop_left' (jM _ _)]
 have c2:aU (S (wQ e)) (some (.int .i64 ((4:Nat):Int))) none=some (S e.n):=by rw[zAM _ _ (by omega) (by rw[vl];simp)];exact congrArg (fun z=>some (S z)) vd
 have d1: ∀H,f129 D n [S (dig e.c 4)] H=some (.int .i64 ((e.c:Nat):Int),H):=fun H=>by rw[UC D n hn _ (by rw[jM];omega),zK (by rw[jM];omega),uH (by omega)]
 have d2: ∀H,f129 D n [S (wQ e)] H=some (.int .i64 ((e.i:Nat):Int),H):=fun H=>by rw[UC D n hn _ (by rw[vl];omega),wQ,List.take_left' (jM _ _),uH (by omega)]
 have i1: ∀H,f84 D n [.int .i64 ((e.i:Nat):Int)] H=some (.bool true,H):=fun H=>by
  rw[kY,decide_eq_true (by omega),decide_eq_true (by omega)];rfl
 have y1: ∀H,f85 D n [S e.n] H=some (.bool true,H):=fun H=>by rw[zAm D n _ (by omega),f5]
 have h1: ∀H,f83 D n [S e.n] H=some (.int .i64 (((e.c - 1) / 256:Nat):Int),H):=fun H=>by rw[WJ D n _ (by omega) (by omega),f6]
 have hsub:((e.c:Nat):Int) - ((1:Nat):Int)=((e.c - 1:Nat):Int):=by omega
 have hq:=zLa (c:=e.c - 1) (by omega)
 have r52:ld1 (.ptr A4 2) H5=some (.int .i64 ((e.c:Nat):Int)):=by rw[qK g5];rfl
 have r71:ld1 (.ptr A4 1) H7=some (.int .i64 ((e.i:Nat):Int)):=by rw[qK g7];rfl
 have r70:ld1 (.ptr A4 0) H7=some (S e.n):=by rw[qK g7];rfl
 have r72:ld1 (.ptr A4 2) H7=some (.int .i64 ((e.c:Nat):Int)):=by rw[qK g7];rfl
 have r8:ldN 5 (.ptr A4 0) H8=some (.agg (sdV d e)):=zII g8 rfl
 have r9:ldN 5 (.ptr A2 0) H9=some (.agg (sdV d e)):=zII g9 rfl
 have hb1:bxV 48 (.agg [S (yE d e.c),S (wQ e)])=some (.cells [S (yE d e.c),S (wQ e)] 48 1 false,fun A=> .ptr A 0):=rfl
 have hbs:bxV 174 (.agg [S [], .int .i64 ((0:Nat):Int), .int .i64 ((0:Nat):Int),S [], .bool false])=some (.cells sd0 174 1 false,fun A=> .ptr A 0):=rfl
 have bs:jT [(0,3),(3,1),(4,1)] [S [], .int .i64 ((0:Nat):Int), .int .i64 ((0:Nat):Int),S [], .bool false] [(1,S (yE d e.c))]=some (.agg [S [], .int .i64 ((0:Nat):Int), .int .i64 ((0:Nat):Int),S (yE d e.c), .bool false]):=rfl
 simp(maxSteps:=999999)(disch:=omega) only[f92,eZ,hS,hb1,b1,hbs,b2,(l1 q2).1,hkl,t9,bs,b3,e4',(l1 q4).1,c1,d1,e5,r52,t1,t2,(l1 q5).2,hvl,t4,d2,e6,(l1 q6).2,c2,e7,r71,i1,r70,y1,r72,hsub,hq,h1,chkI,e8,r8,e9',r9]
theorem JQ (m:Nat)(hm:100≤m){H4:AH}{d N0:Nat}{v cv:AV}{l:List En}{σ:Type}{step:σ→En→Bool×σ}{IR:σ→AH→Prop}{W:Nat→Prop}(hk4:H4.ok)(hv4:zIK H4 v (l.map (vW d)))(hvb: ∀B,Blk v B→N0≤B)(hW: ∀B,W B→B<N0)(hl:l.length≤100000000)(hf: ∀e∈l,e.fine)
  (hst: ∀s H H',H.ok→IR s H→Prs H H'→IR s H')
  (call: ∀s e H,H4.next≤H.next→H.ok→IR s H→e∈l→ ∃H',callV (s86 (dy (m+1)) (m+1)).S (dy (m+1)) cv [.agg (sdV d e)] H=some (.bool (step s e).1,H')∧IR (step s e).2 H'∧Stp W H H'):
  ∀(rr i kf:Nat) {H:AH} (s:σ),i+rr=l.length→rr<kf→IR s H→Stp W H4 H→
   ∃H',jb 0 (qU kf (zA8 (dy (m+1)) (m+1)) [cv,v, .int .i64 ((l.length:Nat):Int), .int .i64 ((i:Nat):Int)] H) (zH9 (dy (m+1)) (m+1))=some (.ret (.int .i64 ((0:Nat):Int)),H')∧IR (jB step (l.drop i) s).2 H'∧Stp W H4 H'
 | _,_,0,_,_,_,hk,_,_=>by omega
 | 0,i,kf+1,H,s,he,_,hI,P=>by
  have hge: ¬((i:Nat):Int)< ((l.length:Nat):Int):=by omega
  have hnil:l.drop i=[]:=zO (by omega)
  rw[hnil]
  refine⟨H, ?_,hI,P⟩
  rw[yB (i:=0) (vs':=[]) (H':=H) (by simp(maxSteps:=999999)(disch:=omega) only[zA8,eZ,hge])]
  simp(maxSteps:=999999)(disch:=omega) only[jb,Nat.beq_refl,cond_true,zH9,eZ]
 | rr+1,i,kf+1,H,s,he,hkf,hI,P=>by
  have hi:i<l.length:=by omega
  have hil:i< (l.map (vW d)).length:=by simpa using hi
  have hv:zIK H v (l.map (vW d)):=Rw.stp hv4 P fun B hB e=>by
   have:=hvb B hB;have:=hW B e;omega
  obtain⟨A',o,i1,i2,i3,i4⟩:=hv.at hil
  have hg:(l.map (vW d))[i]=vW d l[i]:=by simp
  rw[hg]at i2
  have N:=P.next
  have hfe:=hf _ (zS hi)
  obtain⟨H5,A8,b5,p5,g5,m5,n5⟩:=box P.ok (.cells [S [],S []] 48 1 false)
  obtain⟨H6,e6,g6,s6,n6⟩:=qX p5.ok g5 (l':=[S (yE d l[i].c),S (wQ l[i])]) rfl rfl
  have e6':stN 2 (.ptr A8 0) (.agg [S (yE d l[i].c),S (wQ l[i])]) H5=some (qL,H6):=e6
  have P6:Prs H H6:=p5.fresh s6 fun B hB=>by omega
  have N5:=p5.next;have N6:=s6.next
  obtain⟨H7,e7,p7⟩:=zBE (dy (m+1)) (m+1) (by omega) P6.ok (d:=d) hfe
  obtain⟨H8,A9,b8,p8,g8,m8,n8⟩:=box p7.ok (.cells sd0 174 1 false)
  obtain⟨H9,e9,g9,s9,n9⟩:=qX p8.ok g8 (l':=sdV d l[i]) rfl rfl
  have e9':stN 5 (.ptr A9 0) (.agg (sdV d l[i])) H8=some (qL,H9):=e9
  have N7:=p7.next;have N8:=p8.next;have N9:=s9.next
  have P9:Prs H H9:=((P6.trans p7).trans p8).fresh s9 fun B hB=>by omega
  obtain⟨H10,e10,I10,s10⟩:=call s l[i] H9 (by omega) s9.ok (hst _ _ _ P.ok hI P9) (zS hi)
  have P10:Stp W H4 H10:=P.trans ((Prs.stp P9).trans s10) |>.mono fun _ _ x=>x
  have hL:l.drop i=l[i]::l.drop (i+1):=zL hi
  have hiI:((i:Nat):Int)< ((l.length:Nat):Int):=by omega
  have hi1:((i:Nat):Int)+((1:Nat):Int)=((i+1:Nat):Int):=by omega
  have hS:(AV.str 0 0)=S []:=rfl
  have hbx:bxV 48 (.agg [S [],S []])=some (.cells [S [],S []] 48 1 false,fun A=> .ptr A 0):=rfl
  have hbs:bxV 174 (.agg [S [], .int .i64 ((0:Nat):Int), .int .i64 ((0:Nat):Int),S [], .bool false])=some (.cells sd0 174 1 false,fun A=> .ptr A 0):=rfl
  have i2':ldN 2 (.ptr A' o) H=some (.agg [S (yE d l[i].c),S (wQ l[i])]):=i2
  have r6:ldN 2 (.ptr A8 0) H6=some (.agg [S (yE d l[i].c),S (wQ l[i])]):=by rw[qP g6];rfl
  have r9:ldN 5 (.ptr A9 0) H9=some (.agg (sdV d l[i])):=zII g9 rfl
  rw[hL]
  cases hc:(step s l[i]).1 with
  | true=>
   rw[hc]at e10
   have body:zA8 (dy (m+1)) (m+1) [cv,v, .int .i64 ((l.length:Nat):Int), .int .i64 ((i:Nat):Int)] H=some (.norm [cv,v, .int .i64 ((l.length:Nat):Int), .int .i64 ((i+1:Nat):Int)],H10):=by
    simp(maxSteps:=999999)(disch:=omega) only[zA8,eZ,hiI,i1,i2',hS,hbx,b5,e6',r6,e7,qJ,nth,hbs,b8,e9',r9,e10,hi1]
   obtain⟨H11,e11,I11,P11⟩:=JQ m hm hk4 hv4 hvb hW hl hf hst call rr (i+1) kf (step s l[i]).2 (by omega) (by omega) I10 P10
   refine⟨H11, ?_, ?_,P11⟩
   ·rw[xC body,e11]
   ·simp only[jB,hc,cond_true];exact I11
  | false=>
   rw[hc]at e10
   have body:zA8 (dy (m+1)) (m+1) [cv,v, .int .i64 ((l.length:Nat):Int), .int .i64 ((i:Nat):Int)] H=some (.exit 0 [],H10):=by
    simp(maxSteps:=999999)(disch:=omega) only[zA8,eZ,hiI,i1,i2',hS,hbx,b5,e6',r6,e7,qJ,nth,hbs,b8,e9',r9,e10]
   refine⟨H10, ?_, ?_,P10⟩
   ·rw[yB body]
    simp(maxSteps:=999999)(disch:=omega) only[jb,Nat.beq_refl,cond_true,zH9,eZ]
   ·simp only[jB,hc,cond_false];exact I10
theorem c256 (h:Nat):((h:Nat):Int)*((256:Nat):Int)=((h*256:Nat):Int)∧((h*256:Nat):Int)+((1:Nat):Int)=((h*256+1:Nat):Int)∧((h*256+1:Nat):Int)+((256:Nat):Int)=((h*256+257:Nat):Int):=by omega
theorem zBN (m:Nat)(hm:700000000≤m){H:AH}{At M L d h:Nat}{kv:Kvs}(t:jJ H At M L kv)(hL:L≤1000000)(hkv:kv.length≤100000000)(f:fD d kv)(hd:d<2147483648)(hh:h<1024)
  {cv:AV} {σ:Type} {step:σ→En→Bool×σ} {IR:σ→AH→Prop} {W:Nat→Prop} (hW: ∀B,W B→B<H.next)
  (hst: ∀s H H',H.ok→IR s H→Prs H H'→IR s H')
  (call: ∀s e H',H.next≤H'.next→H'.ok→IR s H'→e∈chE d h kv→ ∃H'',callV (s86 (dy (m+1)) (m+1)).S (dy (m+1)) cv [.agg (sdV d e)] H'=some (.bool (step s e).1,H'')∧IR (step s e).2 H''∧Stp W H' H'')
  (s:σ) (hI:IR s H):
  ∃H',f86 (dy (m+1)) (m+1) [.ptr At 0, .int .i64 ((d:Nat):Int), .int .i64 ((h:Nat):Int),cv] H=some (.int .i64 ((0:Nat):Int),H')∧IR (jB step (chE d h kv) s).2 H'∧Stp W H H':=by
 have hk:H.ok:=by obtain⟨_,_,_,_,_,_,_,_,_,ti,_⟩:=t;exact ti.ok
 obtain⟨c1,c2,c3⟩:=f.chain hd hh
 obtain⟨H1,e1,p1⟩:=WI (dy (m+1)) (m+1) (by omega) hk (d:=d) (c:=h*256+1) (by omega) (by omega)
 obtain⟨H2,e2,p2⟩:=WI (dy (m+1)) (m+1) (by omega) p1.ok (d:=d) (c:=h*256+257) (by omega) (by omega)
 have P2:=p1.trans p2
 have hlen:(j8 (yE d (h*256+1)) (yE d (h*256+257)) kv).length≤2147483647:=by have:=List.length_filter_le (inP (yE d (h*256+1)) (yE d (h*256+257))) kv;rw[j8];omega
 obtain⟨H3,v,e3,p3,gv,fv⟩:=zDJ m hm (t.prs P2) hL (by omega) (yE d (h*256+1)) (yE d (h*256+257)) (most:=2147483647) (by omega) hlen
 have hb:j8 (yE d (h*256+1)) (yE d (h*256+257)) kv=(chE d h kv).map (vW d):=c1
 have hcl:(chE d h kv).length≤100000000:=by
  have:=List.length_filter_le (inP (yE d (h*256+1)) (yE d (h*256+257))) kv
  rw[c1,qB]at this;omega
 rw[hb]at gv
 have hv:zIK H3 v ((chE d h kv).map (vW d)):=gv.row
 have P3:=P2.trans p3
 have N2:=P2.next;have N3:=P3.next
 obtain⟨H4,e4,I4,s4⟩:=JQ m (by omega) p3.ok hv (N0:=H.next) (fun B hB=>by have:=fv B hB;omega) hW hcl (fun e he=>(c2 e he).1) hst (fun s e H' hn hk' hI' he=>call s e H' (by omega) hk' hI' he) (chE d h kv).length 0 (m+1) s (by omega) (by omega) (hst _ _ _ hk hI P3) (Stp.refl p3.ok)
 rw[List.drop_zero]at I4
 refine⟨H4, ?_,I4,(Prs.stp P3).trans s4⟩
 obtain⟨hm1,ha1,ha2⟩:=c256 h
 have t00: ¬(((0:Nat):Int)≠((0:Nat):Int)):=by omega
 have hln:lnSl v=some (.int .i64 (((chE d h kv).length:Nat):Int)):=by rw[hv.lnSl,qB]
 simp(maxSteps:=999999)(disch:=omega) only[f86,eZ,hm1,ha1,e1,ha2,e2,e3,qJ,nth,t00,hln,e4]
def zBi (d:Nat):Option En→List AV
 | some e=>sdV d e
 | none=>sd0
def ZK (nm:Str)(s:Option En)(e:En):Bool×Option En:=bif decide (e.n=nm)then(false,some e)else(!s.isSome,s)
theorem zAP (nm:Str): ∀l:List En,(jB (ZK nm) l none).2=l.find? fun e=>decide (e.n=nm)
 | []=>rfl
 | e::l=>by
  by_cases h:e.n=nm
  ·rw[List.find?_cons_of_pos (by simp[h])]
   simp only[jB,ZK,h,decide_true,cond_true,cond_false]
  ·rw[List.find?_cons_of_neg (by simp[h]), ← zAP nm l]
   simp only[jB,ZK,h,decide_false,cond_false,cond_true,Option.isSome_none,Bool.not_false]
set_option maxRecDepth 20000 in
theorem zCx (m n:Nat)(a b:Nat)(x:AV)(H:AH):callV (s86 (dy (m+1)) n).S (dy (m+1)) (.func 130 [] [.ptr a 0, .ptr b 0]) [x] H=f130 (dy m) m [x, .ptr a 0, .ptr b 0] H:=rfl
theorem zGx (D:Dyn)(n:Nat){H:AH}(hk:H.ok){d X5 X8:Nat}{nm:Str}{e:En}{s:Option En}(b5:Box H X5 (S nm))(g8:H.h.get X8=some (.cells (zBi d s) 174 1 false))(h58:X5≠X8):
  ∃H',f130 D n [.agg (sdV d e), .ptr X5 0, .ptr X8 0] H=some (.bool (ZK nm s e).1,H')∧(Box H' X5 (S nm)∧H'.h.get X8=some (.cells (zBi d (ZK nm s e).2) 174 1 false))∧Stp (fun B=>B=X8) H H':=by
 obtain⟨H1,A3,b1,p1,g1,m1,n1⟩:=box hk (.cells (sdV d e) 174 1 false)
 have N1:=p1.next
 have l8:=hk.lt g8
 have l5:=b5.lt hk
 have b51:=b5.mono hk p1 fun x=>x
 have g81:=Prs.get p1 hk g8
 have hbx:bxV 174 (.agg (sdV d e))=some (.cells (sdV d e) 174 1 false,fun A=> .ptr A 0):=rfl
 have r4:ld1 (.ptr A3 4) H1=some (.bool true):=by rw[qK g1];rfl
 have r0:ld1 (.ptr A3 0) H1=some (S e.n):=by rw[qK g1];rfl
 have q4: ∀ {H':AH} {l:List AV},H'.h.get X8=some (.cells l 174 1 false)→ld1 (.ptr X8 4) H'=l[4]? :=fun g=>by rw[qK g]
 by_cases h:e.n=nm
 ·have hst:ZK nm s e=(false,some e):=by simp only[ZK,h,decide_true,cond_true]
  have hlen:(zBi d s).length=5:=by cases s<;>rfl
  obtain⟨H2,e2,g2,s2,n2⟩:=qX p1.ok g81 (l':=sdV d e) (hlen.symm) rfl
  rw[hlen]at e2
  have e2':stN 5 (.ptr X8 0) (.agg (sdV d e)) H1=some (qL,H2):=e2
  have r5:ldN 5 (.ptr A3 0) H1=some (.agg (sdV d e)):=zII g1 rfl
  have r8:ld1 (.ptr X8 4) H2=some (.bool true):=by rw[q4 g2];rfl
  rw[hst]
  refine⟨H2, ?_,⟨b51.mono p1.ok s2 h58,g2⟩,(Prs.stp p1).trans s2⟩
  simp(maxSteps:=999999)(disch:=omega) only[f130,zF1,eZ,hbx,b1,r4,r0,b51.ld,jK,h,r5,e2',r8]
 ·have hst:ZK nm s e=(!s.isSome,s):=by simp only[ZK,h,decide_false,cond_false]
  have r8:ld1 (.ptr X8 4) H1=some (.bool s.isSome):=by rw[q4 g81];cases s<;>rfl
  rw[hst]
  refine⟨H1, ?_,⟨b51,g81⟩,Prs.stp p1⟩
  simp(maxSteps:=999999)(disch:=omega) only[f130,zF1,eZ,hbx,b1,r4,r0,b51.ld,jK,h,r8]
def fT (d:Nat)(nm:Str)(kv:Kvs):List AV:=bif fE nm then(match xY d nm kv with
 | some e=>[.agg (sdV d e), .int .i64 ((0:Nat):Int)]
 | none=>[.agg sd0, .int .i64 ((5:Nat):Int)])else[.agg sd0, .int .i64 ((56:Nat):Int)]
theorem zBD (m:Nat)(hm:700000000≤m){H:AH}{At M L d:Nat}{kv:Kvs}{nm:Str}(t:jJ H At M L kv)(hL:L≤1000000)(hkv:kv.length≤100000000)(f:fD d kv)(hd:1≤d)(hd2:d≤2147483647)(hnm:nm.length<4294967281):
  ∃H',f93 (dy (m+1)) (m+1) [.ptr At 0, .int .i64 ((d:Nat):Int),S nm] H=some (.tuple (fT d nm kv),H')∧Prs H H':=by
 have hk:H.ok:=by obtain⟨_,_,_,_,_,_,_,_,_,ti,_⟩:=t;exact ti.ok
 obtain⟨H1,X5,b1,p1,g1,m1,n1⟩:=box hk (.cells [S nm] 9 1 false)
 obtain⟨H2,X6,b2,p2,g2,m2,n2⟩:=box p1.ok (.cells sd0 174 1 false)
 have N1:=p1.next;have N2:=p2.next
 have P2:=p1.trans p2
 have hbS:qS (S nm)=[S nm]:=rfl
 have hS:(AV.str 0 0)=S []:=rfl
 have hbs:bxV 174 (.agg [S [], .int .i64 ((0:Nat):Int), .int .i64 ((0:Nat):Int),S [], .bool false])=some (.cells sd0 174 1 false,fun A=> .ptr A 0):=rfl
 have bs:jT [(0,3),(3,1),(4,1)] [S [], .int .i64 ((0:Nat):Int), .int .i64 ((0:Nat):Int),S [], .bool false] []=some (.agg sd0):=rfl
 have x5:Box H2 X5 (S nm):=⟨_,Prs.get p2 p1.ok g1⟩
 have i1: ∀H,f84 (dy (m+1)) (m+1) [.int .i64 ((d:Nat):Int)] H=some (.bool true,H):=fun H=>by
  rw[kY,decide_eq_true (by omega),decide_eq_true (by omega)];rfl
 have y1: ∀H,f85 (dy (m+1)) (m+1) [S nm] H=some (.bool (fE nm),H):=fun H=>zAm _ _ _ hnm
 cases hy:fE nm with
 | false=>
  obtain⟨H3,e3,g3,s3,n3⟩:=qX p2.ok g2 (l':=sd0) rfl rfl
  have e3':stN 5 (.ptr X6 0) (.agg sd0) H2=some (qL,H3):=e3
  have r3:ldN 5 (.ptr X6 0) H3=some (.agg sd0):=zII g3 rfl
  refine⟨H3, ?_,P2.fresh s3 fun B hB=>by omega⟩
  rw[hy]at y1
  simp(maxSteps:=999999)(disch:=omega) only[f93,eZ,cq,hbS,b1,hS,hbs,b2,i1,x5.ld,y1,bs,e3',r3,fT,hy,cond_false]
 | true=>
  rw[hy]at y1
  have hl:=KM hy
  obtain⟨H3,X8,b3,p3,g3,m3,n3⟩:=box p2.ok (.cells sd0 174 1 false)
  have N3:=p3.next
  have P3:=P2.trans p3
  have x53:Box H3 X5 (S nm):=x5.mono p2.ok p3 fun x=>x
  obtain⟨H4,e4,⟨x54,g84⟩,s4⟩:=zBN m hm (t.prs P3) hL hkv f (d:=d) (h:=yX nm) (by omega) (uN nm) (cv:= .func 130 [] [.ptr X5 0, .ptr X8 0]) (step:=ZK nm)
   (IR:=fun s H=>Box H X5 (S nm)∧H.h.get X8=some (.cells (zBi d s) 174 1 false)) (W:=fun B=>B=X8) (fun B hB=>by omega) (fun s H H' hk hI P=>⟨hI.1.mono hk P fun x=>x,Prs.get P hk hI.2⟩)
   (fun s e H' hn hk' hI he=>by
    rw[zCx]
    exact zGx (dy m) m hk' hI.1 hI.2 (by omega)) none ⟨x53,g3⟩
  have hrun:(jB (ZK nm) (chE d (yX nm) kv) none).2=xY d nm kv:=zAP nm _
  rw[hrun]at g84
  have N4:=s4.next
  have h1: ∀H,f83 (dy (m+1)) (m+1) [S nm] H=some (.int .i64 ((yX nm:Nat):Int),H):=fun H=>WJ _ _ _ (by omega) (by omega)
  have g64:H4.h.get X6=some (.cells sd0 174 1 false):=by rw[s4.keep _ (by omega) (by omega)];exact Prs.get p3 p2.ok g2
  have P4:Prs H H4:=P3.fresh s4 fun B hB=>by omega
  have t00: ¬(((0:Nat):Int)≠((0:Nat):Int)):=by omega
  cases ho:xY d nm kv with
  | none=>
   rw[ho]at g84
   obtain⟨H5,e5,g5,s5,n5⟩:=qX s4.ok g64 (l':=sd0) rfl rfl
   have e5':stN 5 (.ptr X6 0) (.agg sd0) H4=some (qL,H5):=e5
   have r5:ldN 5 (.ptr X6 0) H5=some (.agg sd0):=zII g5 rfl
   have r84:ld1 (.ptr X8 4) H4=some (.bool false):=by rw[qK g84];rfl
   refine⟨H5, ?_,P4.fresh s5 fun B hB=>by omega⟩
   simp(maxSteps:=999999)(disch:=omega) only[f93,eZ,cq,hbS,b1,hS,hbs,b2,i1,x5.ld,y1,b3,x53.ld,h1,e4,t00,r84,bs,e5',r5,fT,hy,ho,cond_true]
  | some e=>
   rw[ho]at g84
   obtain⟨H5,e5,g5,s5,n5⟩:=qX s4.ok g64 (l':=sdV d e) rfl rfl
   have e5':stN 5 (.ptr X6 0) (.agg (sdV d e)) H4=some (qL,H5):=e5
   have r5:ldN 5 (.ptr X6 0) H5=some (.agg (sdV d e)):=zII g5 rfl
   have r84:ld1 (.ptr X8 4) H4=some (.bool true):=by rw[qK g84];rfl
   have r8:ldN 5 (.ptr X8 0) H4=some (.agg (sdV d e)):=zII g84 rfl
   refine⟨H5, ?_,P4.fresh s5 fun B hB=>by omega⟩
   simp(maxSteps:=999999)(disch:=omega) only[f93,eZ,cq,hbS,b1,hS,hbs,b2,i1,x5.ld,y1,b3,x53.ld,h1,e4,t00,r84,r8,e5',r5,fT,hy,ho,cond_true]
def VT (d:Nat)(nm:Str)(kv:Kvs):List AV:=bif fE nm then(match xY d nm kv with
 | some e=>[.int .i64 ((e.i:Nat):Int), .int .i64 ((e.c:Nat):Int), .int .i64 ((0:Nat):Int)]
 | none=>[.int .i64 ((0:Nat):Int), .int .i64 ((0:Nat):Int), .int .i64 ((5:Nat):Int)])else[.int .i64 ((0:Nat):Int), .int .i64 ((0:Nat):Int), .int .i64 ((56:Nat):Int)]
theorem zAn (d:Nat)(nm:Str)(kv:Kvs):(∃e,fE nm=true∧xY d nm kv=some e∧fT d nm kv=[.agg (sdV d e), .int .i64 ((0:Nat):Int)]∧VT d nm kv=[.int .i64 ((e.i:Nat):Int), .int .i64 ((e.c:Nat):Int), .int .i64 ((0:Nat):Int)])∨(∃x:Nat,x≠0∧x≤1000∧fT d nm kv=[.agg sd0, .int .i64 ((x:Nat):Int)]∧VT d nm kv=[.int .i64 ((0:Nat):Int), .int .i64 ((0:Nat):Int), .int .i64 ((x:Nat):Int)]):=by
 cases hy:fE nm with
 | false=>exact .inr ⟨56,by omega,by omega,by simp only[fT,hy,cond_false],by simp only[VT,hy,cond_false]⟩
 | true=>cases ho:xY d nm kv with
  | none=>exact .inr ⟨5,by omega,by omega,by simp only[fT,hy,cond_true,ho],by simp only[VT,hy,cond_true,ho]⟩
  | some e=>exact .inl ⟨e,rfl,rfl,by simp only[fT,hy,cond_true,ho],by simp only[VT,hy,cond_true,ho]⟩
theorem zHg (m:Nat)(hm:700000000≤m){H:AH}{At M L d:Nat}{kv:Kvs}{nm:Str}(t:jJ H At M L kv)(hL:L≤1000000)(hkv:kv.length≤100000000)(f:fD d kv)(hd:1≤d)(hd2:d≤2147483647)(hnm:nm.length<4294967281):
  ∃H',f46 (dy (m+1)) (m+1) [.ptr At 0, .int .i64 ((d:Nat):Int),S nm] H=some (.tuple (VT d nm kv),H')∧Prs H H':=by
 obtain⟨H1,e1,p1⟩:=zBD m hm t hL hkv f hd hd2 hnm
 obtain⟨H2,A9,b2,p2,g2,m2,n2⟩:=box p1.ok (.cells sd0 174 1 false)
 have N1:=p1.next
 have hS:(AV.str 0 0)=S []:=rfl
 have hbs:bxV 174 (.agg [S [], .int .i64 ((0:Nat):Int), .int .i64 ((0:Nat):Int),S [], .bool false])=some (.cells sd0 174 1 false,fun A=> .ptr A 0):=rfl
 rcases zAn d nm kv with⟨e,_,_,h1,h2⟩ | ⟨x,_,_,h1,h2⟩
 ·rw[h1]at e1
  rw[h2]
  obtain⟨H3,e3,g3,s3,n3⟩:=qX p2.ok g2 (l':=sdV d e) rfl rfl
  have e3':stN 5 (.ptr A9 0) (.agg (sdV d e)) H2=some (qL,H3):=e3
  have r1:ld1 (.ptr A9 1) H3=some (.int .i64 ((e.i:Nat):Int)):=by rw[qK g3];rfl
  have r2:ld1 (.ptr A9 2) H3=some (.int .i64 ((e.c:Nat):Int)):=by rw[qK g3];rfl
  refine⟨H3, ?_,(p1.trans p2).fresh s3 fun B hB=>by omega⟩
  simp(maxSteps:=999999)(disch:=omega) only[f46,eZ,e1,qJ,nth,hS,hbs,b2,e3',r1,r2]
 ·rw[h1]at e1
  rw[h2]
  obtain⟨H3,e3,g3,s3,n3⟩:=qX p2.ok g2 (l':=sd0) rfl rfl
  have e3':stN 5 (.ptr A9 0) (.agg sd0) H2=some (qL,H3):=e3
  have r1:ld1 (.ptr A9 1) H3=some (.int .i64 ((0:Nat):Int)):=by rw[qK g3];rfl
  have r2:ld1 (.ptr A9 2) H3=some (.int .i64 ((0:Nat):Int)):=by rw[qK g3];rfl
  refine⟨H3, ?_,(p1.trans p2).fresh s3 fun B hB=>by omega⟩
  simp(maxSteps:=999999)(disch:=omega) only[f46,eZ,e1,qJ,nth,hS,hbs,b2,e3',r1,r2]
def KT (d:Nat)(nm:Str)(kv:Kvs):Option En:=bif fE nm then xY d nm kv else none
def zFq (d:Nat)(nm:Str)(kv:Kvs):Kvs:=match KT d nm kv with
 | some e=>Nd.delP (yE d e.c) kv
 | none=>kv
def zFp (d:Nat)(nm:Str)(kv:Kvs):List AV:=match KT d nm kv with
 | some e=>[.int .i64 ((e.i:Nat):Int), .int .i64 ((0:Nat):Int)]
 | none=>[.int .i64 ((0:Nat):Int), .int .i64 ((bif fE nm then 5 else 56:Nat):Int)]
theorem zCo (d:Nat)(nm:Str)(kv:Kvs):(∃e,fE nm=true∧xY d nm kv=some e∧KT d nm kv=some e∧fT d nm kv=[.agg (sdV d e), .int .i64 ((0:Nat):Int)])∨(∃x:Nat,x≠0∧x=(bif fE nm then 5 else 56)∧KT d nm kv=none∧fT d nm kv=[.agg sd0, .int .i64 ((x:Nat):Int)]):=by
 cases hy:fE nm with
 | false=>exact .inr ⟨56,by omega,rfl,by simp only[KT,hy,cond_false],by simp only[fT,hy,cond_false]⟩
 | true=>cases ho:xY d nm kv with
  | none=>exact .inr ⟨5,by omega,rfl,by simp only[KT,hy,cond_true,ho],by simp only[fT,hy,cond_true,ho]⟩
  | some e=>exact .inl ⟨e,rfl,rfl,by simp only[KT,hy,cond_true,ho],by simp only[fT,hy,cond_true,ho]⟩
theorem zHk (m:Nat)(hm:700000000≤m){H:AH}{At M L d:Nat}{kv:Kvs}{nm:Str}(t:jJ H At M L kv)(hL:L≤1000000)(hkv:kv.length≤100000000)(f:fD d kv)(hd:1≤d)(hd2:d≤2147483647)(hnm:nm.length<4294967281):
  ∃H',f47 (dy (m+1)) (m+1) [.ptr At 0, .int .i64 ((d:Nat):Int),S nm] H=some (.tuple (zFp d nm kv),H')∧jJ H' At M (L+200) (zFq d nm kv)∧Stp (fun B=>B=At∨B=M) H H':=by
 obtain⟨H1,e1,p1⟩:=zBD m hm t hL hkv f hd hd2 hnm
 obtain⟨H2,A8,b2,p2,g2,m2,n2⟩:=box p1.ok (.cells sd0 174 1 false)
 have N1:=p1.next
 have hS:(AV.str 0 0)=S []:=rfl
 have hbs:bxV 174 (.agg [S [], .int .i64 ((0:Nat):Int), .int .i64 ((0:Nat):Int),S [], .bool false])=some (.cells sd0 174 1 false,fun A=> .ptr A 0):=rfl
 have t00: ¬(((0:Nat):Int)≠((0:Nat):Int)):=by omega
 rcases zCo d nm kv with⟨e,hy,ho,h1,h2⟩ | ⟨x,hx,hx2,h1,h2⟩
 ·rw[h2]at e1
  obtain⟨f1,f2,f3⟩:=f.found (by omega) ho
  obtain⟨H3,e3,g3,s3,n3⟩:=qX p2.ok g2 (l':=sdV d e) rfl rfl
  have e3':stN 5 (.ptr A8 0) (.agg (sdV d e)) H2=some (qL,H3):=e3
  have P3:Prs H H3:=(p1.trans p2).fresh s3 fun B hB=>by omega
  have r3:ld1 (.ptr A8 3) H3=some (S (yE d e.c)):=by rw[qK g3];rfl
  have hz:YG (yE d e.c) kv=0:=by
   have h1:Nd.mayK (yE d e.c)=true:=by simp[Nd.mayK,bB]
   have h2:=(zB5 f.1).2 f2
   simp only[YG,h1,h2,if_true,Option.isSome_some]
  obtain⟨m',rfl⟩: ∃m',m=m'+1:=⟨m - 1,by omega⟩
  obtain⟨H4,e4,t4,s4⟩:=zK5 m' (m'+1+1) (by omega) (by omega) (t.prs P3) (by omega) (by omega) (k:=yE d e.c)
  rw[hz]at e4
  rw[if_pos hz]at t4
  have N3:=P3.next
  have lt:=t.lt
  have g4:H4.h.get A8=some (.cells (sdV d e) 174 1 false):=by rw[s4.keep _ (s3.ok.lt g3) (by omega)];exact g3
  have r4:ld1 (.ptr A8 1) H4=some (.int .i64 ((e.i:Nat):Int)):=by rw[qK g4];rfl
  refine⟨H4, ?_,by rw[zFq,h1];exact t4,(Prs.stp P3).trans s4⟩
  simp(maxSteps:=999999)(disch:=omega) only[f47,eZ,e1,qJ,nth,hS,hbs,b2,e3',t00,r3,e4,r4,zFp,h1]
 ·rw[h2]at e1
  obtain⟨H3,e3,g3,s3,n3⟩:=qX p2.ok g2 (l':=sd0) rfl rfl
  have e3':stN 5 (.ptr A8 0) (.agg sd0) H2=some (qL,H3):=e3
  have P3:Prs H H3:=(p1.trans p2).fresh s3 fun B hB=>by omega
  refine⟨H3, ?_,by rw[zFq,h1];exact(t.prs P3).up (by omega),Prs.stp P3⟩
  have tx:((x:Nat):Int)≠((0:Nat):Int):=by omega
  simp(maxSteps:=999999)(disch:=omega) only[f47,eZ,e1,qJ,nth,hS,hbs,b2,e3',tx,ne_eq,not_false_eq_true,zFp,h1, ← hx2]
def wZ (l:List En):List AV:=(List.range 256).map fun p=> .bool (aB l p)
theorem zC7 (l:List En):(wZ l).length=256:=by simp[wZ]
theorem YO (l:List En){p:Nat}(h:p<256):(wZ l)[p]? =some (.bool (aB l p)):=by simp[wZ,h]
theorem zC5 (l:List En)(e:En):(wZ l).set ((e.c - 1) % 256) (.bool true)=wZ (l++[e]):=by
 apply List.ext_getElem
 ·simp[wZ]
 ·intro j h1 h2
  simp only[wZ,List.getElem_set,List.getElem_map,List.getElem_range,aB,List.any_append,List.any_cons,List.any_nil,Bool.or_false]
  by_cases h:(e.c - 1) % 256=j
  ·rw[if_pos h,beq_iff_eq.2 h,Bool.or_true]
  ·rw[if_neg h,beq_eq_false_iff_ne.2 h,Bool.or_false]
def Y0 (nm:Str)(l:List En):Bool:=l.any fun e=>decide (e.n=nm)
theorem vG (nm:Str)(l:List En)(e:En):Y0 nm (l++[e])=(Y0 nm l||decide (e.n=nm)):=by simp[Y0]
def cG (nm:Str)(l:List En)(e:En):Bool×List En:=(!Y0 nm (l++[e]),l++[e])
theorem zDw (nm:Str): ∀(es l:List En),Y0 nm l=false→Y0 nm (jB (cG nm) es l).2=Y0 nm es∧(Y0 nm es=false→(jB (cG nm) es l).2=l++es)
 | [],l,h=>⟨h,fun _=>(List.append_nil l).symm⟩
 | e::es,l,h=>by
  by_cases hn:e.n=nm
  ·have h1:Y0 nm (l++[e])=true:=by rw[vG,h,decide_eq_true hn];rfl
   have h2:Y0 nm (e::es)=true:=by simp[Y0,hn]
   simp only[jB,cG,h1,Bool.not_true,cond_false]
   exact⟨h2.symm,fun h=>by rw[h2]at h;cases h⟩
  ·have h1:Y0 nm (l++[e])=false:=by rw[vG,h,decide_eq_false hn];rfl
   have h2:Y0 nm (e::es)=Y0 nm es:=by simp[Y0,hn]
   simp only[jB,cG,h1,Bool.not_false,cond_true]
   rw[h2]
   obtain⟨g1,g2⟩:=zDw nm es (l++[e]) h1
   exact⟨g1,fun h=>by rw[g2 h,List.append_assoc];rfl⟩
theorem zHK (nm:Str)(l:List En):Y0 nm l=(l.find? fun e=>decide (e.n=nm)).isSome:=by
 rw[Bool.eq_iff_iff,List.find?_isSome,Y0,List.any_eq_true]
set_option maxRecDepth 20000 in
theorem zFI (m n:Nat)(a b c:Nat)(x:AV)(H:AH):callV (s86 (dy (m+1)) n).S (dy (m+1)) (.func 87 [] [.ptr a 0, .ptr b 0, .ptr c 0]) [x] H=f87 (dy m) m [x, .ptr a 0, .ptr b 0, .ptr c 0] H:=rfl
def AI (X10 X11 X6:Nat)(nm:Str)(l:List En)(H:AH):Prop:=H.h.get X10=some (.cells (wZ l) 171 1 false)∧Box H X11 (.bool (Y0 nm l))∧Box H X6 (S nm)
theorem zKi (D:Dyn)(n:Nat){H:AH}(hk:H.ok){d X10 X11 X6:Nat}{nm:Str}{e:En}{l:List En}(hI:AI X10 X11 X6 nm l H)(hne:X6<X10∧X10<X11)(hf:e.fine):
  ∃H',f87 D n [.agg (sdV d e), .ptr X10 0, .ptr X11 0, .ptr X6 0] H=some (.bool (cG nm l e).1,H')∧AI X10 X11 X6 nm (cG nm l e).2 H'∧Stp (fun B=>B=X10∨B=X11) H H':=by
 obtain⟨g10,b11,b6⟩:=hI
 obtain⟨f1,f2,_⟩:=hf
 obtain⟨H1,A4,b1,p1,g1,m1,n1⟩:=box hk (.cells (sdV d e) 174 1 false)
 have N1:=p1.next
 have l10:=hk.lt g10
 have l11:=b11.lt hk
 have l6:=b6.lt hk
 have hp:(e.c - 1) % 256<256:=Nat.mod_lt _ (by omega)
 obtain⟨H2,e2,g2,s2⟩:=zI5 p1.ok (Prs.get p1 hk g10) (o:=(e.c - 1) % 256) (x:= .bool true) rfl (by rw[zC7];omega)
 rw[zC5]at g2
 have N2:=s2.next
 have g12:H2.h.get A4=some (.cells (sdV d e) 174 1 false):=by rw[s2.keep _ n1 (by omega)];exact g1
 have b112:Box H2 X11 (.bool (Y0 nm l)):=(b11.mono hk p1 fun x=>x).mono p1.ok s2 (by omega)
 have b62:Box H2 X6 (S nm):=(b6.mono hk p1 fun x=>x).mono p1.ok s2 (by omega)
 obtain⟨H3,e3,b113,s3⟩:=b112.st s2.ok (x:= .bool (Y0 nm (l++[e]))) rfl
 have g103:H3.h.get X10=some (.cells (wZ (l++[e])) 171 1 false):=by rw[s3.keep _ (by omega) (by omega)];exact g2
 have b63:Box H3 X6 (S nm):=b62.mono s2.ok s3 (by omega)
 have hbx:bxV 174 (.agg (sdV d e))=some (.cells (sdV d e) 174 1 false,fun A=> .ptr A 0):=rfl
 have r2:ld1 (.ptr A4 2) H1=some (.int .i64 ((e.c:Nat):Int)):=by rw[qK g1];rfl
 have r4:ld1 (.ptr A4 4) H2=some (.bool true):=by rw[qK g12];rfl
 have r0:ld1 (.ptr A4 0) H2=some (S e.n):=by rw[qK g12];rfl
 have hsub:((e.c:Nat):Int) - ((1:Nat):Int)=((e.c - 1:Nat):Int):=by omega
 have hrem:=zL5 (c:=e.c - 1) (by omega)
 have hix:QD 256 1 (.ptr X10 0) (.int .i64 (((e.c - 1) % 256:Nat):Int))=some (.ptr X10 ((e.c - 1) % 256)):=by rw[hU 256 X10 0 .i64 _ rfl hp,Nat.zero_add]
 refine⟨H3, ?_,⟨g103,b113,b63⟩,((Prs.stp p1).trans (s2.mono fun _ _ x=> .inl x)).trans (s3.mono fun _ _ x=> .inr x)⟩
 rw[vG]at e3 b113
 cases ha:Y0 nm l with
 | true=>
  rw[ha,Bool.true_or]at e3
  have hst:(cG nm l e).1=false:=by simp only[cG,vG,ha,Bool.true_or,Bool.not_true]
  rw[ha]at b112
  rw[ha,Bool.true_or]at b113
  simp(maxSteps:=999999)(disch:=omega) only[f87,eZ,hbx,b1,r2,hsub,hrem,hix,e2,b112.ld,e3,b113.ld,hst]
 | false=>
  rw[ha,Bool.false_or]at e3 b113
  rw[ha]at b112
  by_cases hn:e.n=nm
  ·have hst:(cG nm l e).1=false:=by simp only[cG,vG,ha,hn,decide_true,Bool.or_true,Bool.not_true]
   rw[decide_eq_true hn]at e3 b113
   simp(maxSteps:=999999)(disch:=omega) only[f87,eZ,hbx,b1,r2,hsub,hrem,hix,e2,b112.ld,r4,r0,b62.ld,jK,hn,e3,b113.ld,hst]
  ·have hst:(cG nm l e).1=true:=by simp only[cG,vG,ha,hn,decide_false,Bool.or_false,Bool.not_false]
   rw[decide_eq_false hn]at e3 b113
   simp(maxSteps:=999999)(disch:=omega) only[f87,eZ,hbx,b1,r2,hsub,hrem,hix,e2,b112.ld,r4,r0,b62.ld,jK,hn,e3,b113.ld,hst]
def bF (d:Nat)(nm:Str)(ino:Int)(kv:Kvs):Nat×Nat×Kvs:=
 if 1≤ino∧ino≤2147483647 then
  if fE nm=true then
   if(xY d nm kv).isSome=true then(0,6,kv)else
    match aD (chE d (yX nm) kv)with
    | none=>(0,3,kv)
    | some p=>(yX nm*256+p+1,0,Nd.putP (yE d (yX nm*256+p+1)) (wQ ⟨yX nm*256+p+1,ino.toNat,nm⟩) kv)
  else(0,56,kv)
 else(0,1,kv)
def jH (l:List En):Nat:=(aD l).getD 256
theorem ZW (l:List En):jH l≤256∧(∀q,q<jH l→aB l q=true)∧(jH l<256→aB l (jH l)=false∧aD l=some (jH l))∧(jH l=256→aD l=none):=by
 cases h:aD l with
 | none=>
  have e:jH l=256:=by rw[jH,h];rfl
  rw[e]
  refine⟨Nat.le_refl _,fun q hq=> ?_,fun h=>absurd h (by omega),fun _=>rfl⟩
  have:=List.find?_eq_none.1 h q (List.mem_range.2 hq)
  simpa using this
 | some p=>
  have e:jH l=p:=by rw[jH,h];rfl
  rw[e]
  obtain⟨h1,h2,h3⟩:=List.find?_range_eq_some.1 h
  have hp:=List.mem_range.1 h2
  refine⟨by omega,fun q hq=> ?_,fun _=>⟨by simpa using h1,rfl⟩,fun h=>by omega⟩
  have:=h3 q hq
  simpa using this
theorem zCh (D:Dyn)(n:Nat)(hn:300≤n){H:AH}{X10:Nat}{l:List En}{a0 a1 a3 a6 hh:AV}(g:H.h.get X10=some (.cells (wZ l) 171 1 false)):
  qU n (zEK D n) [a0,a1,a3,a6, .ptr X10 0,hh, .int .i64 ((0:Nat):Int)] H=some (.exit 0 [a0,a1,a3,a6,hh, .int .i64 ((jH l:Nat):Int)],H):=by
 obtain⟨p1,p2,p3,p4⟩:=ZW l
 refine wM (fun i=>[a0,a1,a3,a6, .ptr X10 0,hh, .int .i64 ((i:Nat):Int)]) (jH l) (fun i hi=> ?_) (fun k=> ?_) n (by omega)
 ·have hiI:((i:Nat):Int)< ((256:Nat):Int):=by omega
  have hix:QD 256 1 (.ptr X10 0) (.int .i64 ((i:Nat):Int))=some (.ptr X10 i):=by rw[hU 256 X10 0 .i64 i rfl (by omega),Nat.zero_add]
  have r:ld1 (.ptr X10 i) H=some (.bool true):=by rw[qK g,YO l (by omega),p2 i hi]
  have hi1:((i:Nat):Int)+((1:Nat):Int)=((i+1:Nat):Int):=by omega
  simp(maxSteps:=999999)(disch:=omega) only[zEK,eZ,hiI,hix,r,hi1]
 ·refine yB ?_
  by_cases h:jH l<256
  ·have hiI:((jH l:Nat):Int)< ((256:Nat):Int):=by omega
   have hix:QD 256 1 (.ptr X10 0) (.int .i64 ((jH l:Nat):Int))=some (.ptr X10 (jH l)):=by rw[hU 256 X10 0 .i64 _ rfl h,Nat.zero_add]
   have r:ld1 (.ptr X10 (jH l)) H=some (.bool false):=by rw[qK g,YO l h,(p3 h).1]
   simp(maxSteps:=999999)(disch:=omega) only[zEK,eZ,hiI,hix,r]
  ·have hiI: ¬((jH l:Nat):Int)< ((256:Nat):Int):=by omega
   simp(maxSteps:=999999)(disch:=omega) only[zEK,eZ,hiI]
theorem zC6:rep 256 [AV.bool false]=wZ []:=by
 rw[wZ,show(fun p=>AV.bool (aB [] p))=fun _=>AV.bool false from rfl,List.map_const',List.length_range,zDA]
theorem cookA {h p c:Nat}(hc:c=h*256+p+1):((h:Nat):Int)*((256:Nat):Int)=((h*256:Nat):Int)∧((h*256:Nat):Int)+((p:Nat):Int)=((h*256+p:Nat):Int)∧((h*256+p:Nat):Int)+((1:Nat):Int)=((c:Nat):Int):=by omega
theorem chkS (s:Str)(K:Rs):chk (some (S s)) (S s) K=K:=yZ rfl (by simp[aveq,S])
theorem zAo (m:Nat)(hm:700000000≤m){H:AH}{At M L d:Nat}{kv:Kvs}{nm:Str}{ino:Int}(t:jJ H At M L kv)(hL:L≤1000000)(hkv:kv.length≤100000000)(f:fD d kv)(hd:1≤d)(hd2:d≤2147483647)(hnm:nm.length<4294967281):
  ∃H',f44 (dy (m+1)) (m+1) [.ptr At 0, .int .i64 ((d:Nat):Int),S nm, .int .i64 ino] H=some (.tuple [.int .i64 (((bF d nm ino kv).1:Nat):Int), .int .i64 (((bF d nm ino kv).2.1:Nat):Int)],H')∧jJ H' At M (L+200) (bF d nm ino kv).2.2∧Stp (fun B=>B=At∨B=M) H H':=by
 have hk:H.ok:=by obtain⟨_,_,_,_,_,_,_,_,_,ti,_⟩:=t;exact ti.ok
 obtain⟨H1,X6,b1,p1,g1,m1,n1⟩:=box hk (.cells [S nm] 9 1 false)
 have N1:=p1.next
 have x6:Box H1 X6 (S nm):=⟨_,g1⟩
 have hbS:qS (S nm)=[S nm]:=rfl
 have i1: ∀H,f84 (dy (m+1)) (m+1) [.int .i64 ((d:Nat):Int)] H=some (.bool true,H):=fun H=>by
  rw[kY,decide_eq_true (by omega),decide_eq_true (by omega)];rfl
 have y1: ∀H,f85 (dy (m+1)) (m+1) [S nm] H=some (.bool (fE nm),H):=fun H=>zAm _ _ _ hnm
 by_cases hi: ¬(1≤ino∧ino≤2147483647)
 ·have i2: ∀H,f84 (dy (m+1)) (m+1) [.int .i64 ino] H=some (.bool false,H):=fun H=>by
   rw[kY, ← Bool.decide_and,decide_eq_false hi]
  have ha:bF d nm ino kv=(0,1,kv):=by rw[bF,if_neg hi]
  rw[ha]
  refine⟨H1, ?_,(t.prs p1).up (by omega),Prs.stp p1⟩
  simp(maxSteps:=999999)(disch:=omega) only[f44,eZ,cq,hbS,b1,i1,i2]
 replace hi:=Classical.not_not.1 hi
 obtain⟨i,rfl⟩: ∃i:Nat,ino=(i:Int):=⟨ino.toNat,by omega⟩
 have i2: ∀H,f84 (dy (m+1)) (m+1) [.int .i64 ((i:Nat):Int)] H=some (.bool true,H):=fun H=>by
  rw[kY, ← Bool.decide_and,decide_eq_true hi]
 cases hy:fE nm with
 | false=>
  rw[hy]at y1
  have ha:bF d nm ((i:Nat):Int) kv=(0,56,kv):=by rw[bF,if_pos hi,if_neg (by rw[hy];decide)]
  rw[ha]
  refine⟨H1, ?_,(t.prs p1).up (by omega),Prs.stp p1⟩
  simp(maxSteps:=999999)(disch:=omega) only[f44,eZ,cq,hbS,b1,i1,i2,x6.ld,y1]
 | true=>
 rw[hy]at y1
 have hl:=KM hy
 obtain⟨H2,X10,b2,p2,g2,m2,n2⟩:=box p1.ok (.cells (wZ []) 171 1 false)
 obtain⟨H3,X11,b3,p3,g3,m3,n3⟩:=box p2.ok (.cells [.bool false] 4 1 false)
 have N2:=p2.next;have N3:=p3.next
 have x11:Box H3 X11 (.bool false):=⟨_,g3⟩
 obtain⟨H4,e4,x114,s4⟩:=x11.st p3.ok (x:= .bool false) rfl
 have N4:=s4.next
 have P4:Prs H H4:=((p1.trans p2).trans p3).fresh s4 fun B hB=>by omega
 have x64:Box H4 X6 (S nm):=(x6.mono p1.ok (p2.trans p3) fun x=>x).mono p3.ok s4 (by omega)
 have g104:H4.h.get X10=some (.cells (wZ []) 171 1 false):=by rw[s4.keep _ (by omega) (by omega)];exact Prs.get p3 p2.ok g2
 have h1: ∀H,f83 (dy (m+1)) (m+1) [S nm] H=some (.int .i64 ((yX nm:Nat):Int),H):=fun H=>WJ _ _ _ (by omega) (by omega)
 have c2:=(f.chain (h:=yX nm) (by omega) (uN nm)).2.1
 obtain⟨H5,e5,I5,s5⟩:=zBN m hm (t.prs P4) hL hkv f (d:=d) (h:=yX nm) (by omega) (uN nm) (cv:= .func 87 [] [.ptr X10 0, .ptr X11 0, .ptr X6 0]) (step:=cG nm)
  (IR:=AI X10 X11 X6 nm) (W:=fun B=>B=X10∨B=X11) (fun B hB=>by omega) (fun s H H' hk hI P=>⟨Prs.get P hk hI.1,hI.2.1.mono hk P fun x=>x,hI.2.2.mono hk P fun x=>x⟩)
  (fun s e H' hn hk' hI he=>by
   rw[zFI]
   exact zKi (dy m) m hk' hI (by omega) (c2 e he).1) [] ⟨g104,x114,x64⟩
 obtain⟨r1,r2⟩:=zDw nm (chE d (yX nm) kv) [] rfl
 obtain⟨g105,x115,x65⟩:=I5
 rw[r1]at x115
 have N5:=s5.next
 have P5:Prs H H5:=P4.fresh s5 fun B hB=>by omega
 have t00: ¬(((0:Nat):Int)≠((0:Nat):Int)):=by omega
 have hb10: ∀K,bA (some (.cells (rep 256 [.bool false]) 171 1 false,fun A=> .ptr A 0)) H1 K=K (.ptr X10 0) H2:=fun K=>by rw[zC6];exact b2 _ K
 have hb11:qS (.bool false)=[.bool false]:=rfl
 have hfind:(xY d nm kv).isSome=Y0 nm (chE d (yX nm) kv):=(zHK nm _).symm
 cases hany:Y0 nm (chE d (yX nm) kv)with
 | true=>
  rw[hany]at x115 hfind
  have ha:bF d nm ((i:Nat):Int) kv=(0,6,kv):=by rw[bF,if_pos hi,if_pos hy,if_pos hfind]
  rw[ha]
  refine⟨H5, ?_,(t.prs P5).up (by omega),Prs.stp P5⟩
  simp(maxSteps:=999999)(disch:=omega) only[f44,eZ,cq,hbS,b1,i1,i2,x6.ld,y1,hb10,hb11,b3,e4,x64.ld,h1,e5,t00,x115.ld]
 | false=>
 rw[hany]at x115 hfind
 rw[r2 hany,List.nil_append]at g105
 have lp:=zCh (dy (m+1)) (m+1) (by omega) (a0:= .ptr At 0) (a1:= .int .i64 ((d:Nat):Int)) (a3:= .int .i64 ((i:Nat):Int)) (a6:= .ptr X6 0) (hh:= .int .i64 ((yX nm:Nat):Int)) g105
 obtain⟨q1,q2,q3,q4⟩:=ZW (chE d (yX nm) kv)
 by_cases hp: ¬jH (chE d (yX nm) kv)<256
 ·have hpe:jH (chE d (yX nm) kv)=256:=by omega
  have ha:bF d nm ((i:Nat):Int) kv=(0,3,kv):=by rw[bF,if_pos hi,if_pos hy,if_neg (by rw[hfind];decide),q4 hpe]
  rw[ha]
  rw[hpe]at lp
  refine⟨H5, ?_,(t.prs P5).up (by omega),Prs.stp P5⟩
  simp(maxSteps:=999999)(disch:=omega) only[f44,eZ,cq,hbS,b1,i1,i2,x6.ld,y1,hb10,hb11,b3,e4,x64.ld,h1,e5,t00,x115.ld,lp,zJO]
 ·replace hp:=Classical.not_not.1 hp
  have hpl:=(q3 hp).2
  have hh:=uN nm
  obtain⟨_,hfe,hfr⟩:=f.free (i:=i) (by omega) hpl (by omega) (by omega) hy
  have ha:bF d nm ((i:Nat):Int) kv=(yX nm*256+jH (chE d (yX nm) kv)+1,0,Nd.putP (yE d (yX nm*256+jH (chE d (yX nm) kv)+1)) (wQ ⟨yX nm*256+jH (chE d (yX nm) kv)+1,i,nm⟩) kv):=by
   rw[bF,if_pos hi,if_pos hy,if_neg (by rw[hfind];decide),hpl];rfl
  rw[ha]
  obtain⟨c,hc⟩: ∃c,c=yX nm*256+jH (chE d (yX nm) kv)+1:=⟨_,rfl⟩
  rw[← hc]at hfe hfr⊢
  obtain⟨H6,e6,p6⟩:=WI (dy (m+1)) (m+1) (by omega) s5.ok (d:=d) (c:=c) (by omega) (by omega)
  obtain⟨H7,e7,p7⟩:=fU (dy (m+1)) (m+1) (by omega) p6.ok i (by omega)
  have x66:=(x65.mono s5.ok p6 fun x=>x).ld
  have x67:=(x65.mono s5.ok (p6.trans p7) fun x=>x).ld
  have hval:kD .add (S (dig i 4)) (S nm)=some (S (wQ ⟨c,i,nm⟩)):=by rw[dP _ _ (by simp[jM];omega)];rfl
  have hput:ZU (yE d c) (wQ ⟨c,i,nm⟩)=true:=by
   have:(wQ ⟨c,i,nm⟩).length=4+nm.length:=by simp[wQ,jM]
   simp[ZU,Nd.mayK,bB,this];omega
  have P7:Prs H H7:=(P5.trans p6).trans p7
  obtain⟨m',rfl⟩: ∃m',m=m'+1:=⟨m - 1,by omega⟩
  obtain⟨H8,e8,t8,s8⟩:=zJk m' (m'+1+1) (by omega) (by omega) (t.prs P7) (by omega) (by omega) (k:=yE d c) (v:=wQ ⟨c,i,nm⟩)
  rw[hput]at e8 t8
  simp only[if_true]at e8 t8
  refine⟨H8, ?_,t8,(Prs.stp P7).trans s8⟩
  have hne:((jH (chE d (yX nm) kv):Nat):Int)≠((256:Nat):Int):=by omega
  obtain⟨hm1,ha1,ha2⟩:=cookA hc
  simp(maxSteps:=999999)(disch:=omega) only[f44,eZ,cq,hbS,b1,i1,i2,x6.ld,y1,hb10,hb11,b3,e4,x64.ld,h1,e5,t00,x115.ld,lp,zJO,hne,hm1,ha1,ha2,x65.ld,e6,x66,chkS,e7,x67,hval,e8]
theorem zAO {most:Nat} : ∀(l a:Kvs),a.length≤most→(jB (v8 most) l (a,false)).2=((a++l).take most,decide (most<a.length+l.length))
 | [],a,h=>by
  rw[List.append_nil,zK h,zU,Nat.add_zero,decide_eq_false (by omega)];rfl
 | x::l,a,h=>by
  by_cases hf:a.length=most
  ·have hs:v8 most (a,false) x=(false,(a,true)):=by simp only[v8,show Nat.beq a.length most=true by rw[Nat.beq_eq];exact hf,cond_true]
   simp only[jB,hs,cond_false]
   rw[List.take_append_of_le_length (by omega),zK (by omega),decide_eq_true (by simp;omega)]
  ·have hne:Nat.beq a.length most=false:=by
    cases hb:Nat.beq a.length most with
    | false=>rfl
    | true=>exact absurd (Nat.eq_of_beq_eq_true hb) hf
   have hs:v8 most (a,false) x=(true,(a++[x],false)):=by simp only[v8,hne,cond_false]
   simp only[jB,hs,cond_true]
   rw[zAO l (a++[x]) (by simp;omega),List.append_assoc,List.singleton_append]
   simp only[zI,zF,zU]
   rw[show a.length+(0+1)+l.length=a.length+(l.length+1)by omega]
theorem zDK (m:Nat)(hm:700000000≤m){H:AH}{At M L:Nat}{kv:Kvs}(t:jJ H At M L kv)(hL:L≤1000000)(hkv:kv.length≤1000000000)(fr to:Str){most:Nat}(hmo:most≤2147483647):
  ∃H' v,f90 (dy (m+1)) (m+1) [.ptr At 0,S fr,S to, .int .i64 ((most:Nat):Int)] H=some (.tuple [v, .bool (decide (most< (j8 fr to kv).length)), .int .i64 ((0:Nat):Int)],H')∧Prs H H'∧jA 2 48 H' v ((j8 fr to kv).take most).length (((j8 fr to kv).take most).flatMap prV)∧ ∀B,Blk v B→H.next≤B:=by
 obtain⟨d,c,_,root,es,q,last,rfl,hc,ti,h2,h3,h4,h5⟩:=t
 have hold:=ti.hold
 have lA:=ti.ok.lt ti.gT
 have lM:=ti.ok.lt ti.gM
 have hg:GI0 H.next At M root q H (fun _=>False):=⟨fun _ x=>x,lA,lM,d,c,es,last,ti,hold⟩
 have main: ∀L0,Vis (Qf q []) root fr to L0→L0.length≤8192+q.length→(jB (kS fr to (v8 most)) L0 ([],false)).2=((j8 fr to kv).take most,decide (most< (j8 fr to kv).length))→ ∃H' v,f90 (dy (m+1)) (m+1) [.ptr At 0,S fr,S to, .int .i64 ((most:Nat):Int)] H=some (.tuple [v, .bool (decide (most< (j8 fr to kv).length)), .int .i64 ((0:Nat):Int)],H')∧Prs H H'∧jA 2 48 H' v ((j8 fr to kv).take most).length (((j8 fr to kv).take most).flatMap prV)∧ ∀B,Blk v B→H.next≤B:=by
  intro L0 hv hl hr
  obtain⟨H',Wg',v,e,_,s,_,g,f⟩:=XZ (zDE H.next At M root q) m hm hg (Nat.le_refl _) hmo hv hl (by omega)
  rw[hr]at e g
  exact⟨H',v,e,s,g,f⟩
 rcases h5 with⟨rfl,rfl⟩ | ⟨s,h,nd,t,S0,rfl,hs,rn,wr,nd0,rfl⟩
 ·exact main [] (.inl ⟨.inl rfl,rfl⟩) (by simp) (by
   show(([],false):Kvs×Bool)=(List.take most [],decide (most<0))
   rw[List.take_nil,decide_eq_false (by omega)])
 ·by_cases hto:to≠[]∧ltS fr to=false
  ·refine main [] (.inl ⟨.inr hto,rfl⟩) (by simp) ?_
   rw[aO hto.1 hto.2]
   show(([],false):Kvs×Bool)=(List.take most [],decide (most<0))
   rw[List.take_nil,decide_eq_false (by omega)]
  ·have hto':to=[]∨ltS fr to=true:=by
    by_cases h0:to=[]
    ·exact .inl h0
    ·right
     cases hb:ltS fr to with
     | true=>rfl
     | false=>exact absurd ⟨h0,hb⟩ hto
   obtain⟨_,_,hvl⟩:=K5 (Q:=Qf q []) (fr:=fr) (to:=to) (p:=pp s) rn wr
   obtain⟨_,hql⟩:=YV hs rn wr nd0
   refine main (wF (Qf q []) fr to h (pp s) nd) (.inr ⟨by simp[pp],hto',h,nd,by have:=wr.low hkv;omega, ?_,zCO rn wr,rfl⟩) (by omega) ?_
   ·rw[aW];simpa[qR]using hs
   ·rw[zAz rn wr,zAO _ [] (by simp),List.nil_append,zU,Nat.zero_add];rfl
theorem zCy (D:Dyn)(n:Nat)(hn:1≤n){H:AH}(hk:H.ok)(s:Str){b:UInt8}(hb:b.toNat<255)(hs:s.length≤1000000): ∃H',f91 D n [S (s++[b])] H=some (S (s++[UInt8.ofNat (b.toNat+1)]),H')∧Prs H H':=by
 obtain⟨H1,A,b1,p1,g1,m1,n1⟩:=box hk (.cells [.int .u8 ((b.toNat+1:Nat):Int)] 5 1 false)
 refine⟨H1, ?_,p1⟩
 obtain⟨n',rfl⟩: ∃n',n=n'+1:=⟨n - 1,by omega⟩
 have hl:kJ (S (s++[b]))=some (.int .i64 ((s.length+1:Nat):Int)):=by rw[jY];simp
 have hsu:((s.length+1:Nat):Int) - ((1:Nat):Int)=((s.length:Nat):Int):=by omega
 have hge:((0:Nat):Int)≤((s.length:Nat):Int):=by omega
 have hx:YF (S (s++[b])) (.int .i64 ((s.length:Nat):Int))=some (.int .u8 ((b.toNat:Nat):Int)):=by
  rw[QC (s++[b]) .i64 (show s.length< (s++[b]).length by simp)]
  simp
 have hne:((b.toNat:Nat):Int)≠((255:Nat):Int):=by omega
 have hcut:aU (S (s++[b])) none (some (.int .i64 ((s.length:Nat):Int)))=some (S s):=by
  rw[zGv _ _ (by omega) (by simp)]
  simp
 have hadd:((b.toNat:Nat):Int)+((1:Nat):Int)=((b.toNat+1:Nat):Int):=by omega
 have hw:IntKind.wrap .u8 ((b.toNat+1:Nat):Int)=((b.toNat+1:Nat):Int):=by rw[wrap_u8];omega
 have bl:u5 5 1 1 [.int .u8 ((0:Nat):Int)] [(0, .int .u8 ((b.toNat+1:Nat):Int))]=some (.cells [.int .u8 ((b.toNat+1:Nat):Int)] 5 1 false,fun A=> .slice A 0 1 2):=rfl
 have hcv:zGi (.slice A 0 1 2) H1=some (S [UInt8.ofNat (b.toNat+1)]):=cv1 p1.ok (by rw[V6 (by omega)];exact g1)
 have had:kD .add (S s) (S [UInt8.ofNat (b.toNat+1)])=some (S (s++[UInt8.ofNat (b.toNat+1)])):=by rw[dP _ _ (by simp;omega)]
 have body:zJN D (n'+1) [S (s++[b]), .int .i64 ((s.length:Nat):Int)] H=some (.ret (S (s++[UInt8.ofNat (b.toNat+1)])),H1):=by
  simp(maxSteps:=999999)(disch:=omega) only[zJN,eZ,hge,hx,hne,ne_eq,not_false_eq_true,hcut,hadd,hw,bl,b1,hcv,had]
 simp(maxSteps:=999999)(disch:=omega) only[f91,eZ,hl,hsu,fY body]
theorem J0 {d:Nat}(hd:d<256):dU d=[101,0,0,0]++[UInt8.ofNat d]:=by
 have h3:d / 256 ^ 3 % 256=0:=by rw[Nat.div_eq_of_lt (by omega)]
 have h2:d / 256 ^ 2 % 256=0:=by rw[Nat.div_eq_of_lt (by omega)]
 have h1:d / 256 ^ 1 % 256=0:=by rw[Nat.div_eq_of_lt (by omega)]
 have h0:d / 256 ^ 0 % 256=d:=by rw[Nat.pow_zero,Nat.div_one,Nat.mod_eq_of_lt hd]
 simp only[dU,dig]
 rw[h3,h2,h1,h0];rfl
theorem zCz (D:Dyn)(n:Nat)(hn:1≤n){H:AH}(hk:H.ok){d:Nat}(hd:d<255): ∃H',f91 D n [S (dU d)] H=some (S (dU (d+1)),H')∧Prs H H':=by
 have e1:=J0 (d:=d) (by omega)
 have e2:=J0 (d:=d+1) (by omega)
 have hb:(UInt8.ofNat d).toNat=d:=V6 (by omega)
 have:=zCy D n hn hk [101,0,0,0] (b:=UInt8.ofNat d) (by omega) (by simp)
 rwa[hb, ← e1, ← e2]at this
def etV (e:En):List AV:=[S e.n, .int .i64 ((e.i:Nat):Int), .int .i64 ((e.c:Nat):Int)]
def Ens (H:AH)(v:AV)(l:List En):Prop:=jA 3 99 H v l.length (l.flatMap etV)
theorem zBF (m:Nat)(hm:700000000≤m){H:AH}{At M L d b most:Nat}{kv:Kvs}(t:jJ H At M L kv)(hL:L≤1000000)(hkv:kv.length≤100000000)(f:fD d kv)(hd:1≤d)(hd2:d<255)(hb:b≤262144)(hmo:most≤2147483647):
  ∃H' v,f45 (dy (m+1)) (m+1) [.ptr At 0, .int .i64 ((d:Nat):Int), .int .i64 ((b:Nat):Int), .int .i64 ((most:Nat):Int)] H=some (.tuple [v, .bool (!decide (most< (liE d b kv).length)), .int .i64 ((0:Nat):Int)],H')∧Prs H H'∧Ens H' v ((liE d b kv).take most)∧ ∀B,Blk v B→H.next≤B:=by
 have hk:H.ok:=by obtain⟨_,_,_,_,_,_,_,_,_,ti,_⟩:=t;exact ti.ok
 obtain⟨c1,c2,c3⟩:=f.list (b:=b) (by omega) hb
 obtain⟨H1,e1,p1⟩:=WI (dy (m+1)) (m+1) (by omega) hk (d:=d) (c:=b+1) (by omega) (by omega)
 obtain⟨H2,e2,p2⟩:=fU (dy (m+1)) (m+1) (by omega) p1.ok d (by omega)
 obtain⟨H3,e3,p3⟩:=zCz (dy (m+1)) (m+1) (by omega) p2.ok (d:=d) hd2
 have P3:Prs H H3:=(p1.trans p2).trans p3
 obtain⟨H4,v,e4,p4,gv,fv⟩:=zDK m hm (t.prs P3) hL (by omega) (yE d (b+1)) (dU (d+1)) (most:=most) hmo
 have hbt:j8 (yE d (b+1)) (dU (d+1)) kv=(liE d b kv).map (vW d):=c1
 rw[hbt,qB]at e4
 rw[hbt, ← List.map_take]at gv
 obtain⟨l,hl⟩: ∃l,l=(liE d b kv).take most:=⟨_,rfl⟩
 have hlf: ∀e∈l,e.fine:=fun e he=>by rw[hl]at he;exact(c2 e (List.mem_of_mem_take he)).1
 have hll:l.length≤100000000:=by
  have h1:=List.length_filter_le (inP (yE d (b+1)) (dU (d+1))) kv
  rw[c1,qB]at h1
  rw[hl,zG];omega
 rw[← hl]at gv⊢
 have hv:zIK H4 v (l.map (vW d)):=gv.row
 have P4:Prs H H4:=P3.trans p4
 have N3:=P3.next;have N4:=p4.next
 have lp:=vO (b:=zEJ (dy (m+1)) (m+1)) l.length (fun i us H'=> ∃w,us=[.bool (decide (most< (liE d b kv).length)),w,v, .int .i64 ((l.length:Nat):Int), .int .i64 ((i:Nat):Int)]∧Prs H4 H'∧Ens H' w (l.take i)∧(∀B,Blk w B→H4.next≤B)) (fun i us H' hi ⟨w,hus,P,hw,fw⟩=>by
  subst hus
  have hil:i< (l.map (vW d)).length:=by simpa using hi
  have hv':zIK H' v (l.map (vW d)):=Rw.stp hv P fun _ _ x=>x
  obtain⟨A',o,i1,i2,i3,i4⟩:=hv'.at hil
  have hg:(l.map (vW d))[i]=vW d l[i]:=by simp
  rw[hg]at i2
  have N:=P.next
  have hfe:=hlf _ (zS hi)
  obtain⟨H5,A8,b5,p5,g5,m5,n5⟩:=box P.ok (.cells [S [],S []] 48 1 false)
  obtain⟨H6,e6,g6,s6,n6⟩:=qX p5.ok g5 (l':=[S (yE d l[i].c),S (wQ l[i])]) rfl rfl
  have e6':stN 2 (.ptr A8 0) (.agg [S (yE d l[i].c),S (wQ l[i])]) H5=some (qL,H6):=e6
  have P6:Prs H' H6:=p5.fresh s6 fun B hB=>by omega
  have N5:=p5.next;have N6:=s6.next
  obtain⟨H7,e7,p7⟩:=zBE (dy (m+1)) (m+1) (by omega) P6.ok (d:=d) hfe
  obtain⟨H8,A9,b8,p8,g8,m8,n8⟩:=box p7.ok (.cells sd0 174 1 false)
  obtain⟨H9,e9,g9,s9,n9⟩:=qX p8.ok g8 (l':=sdV d l[i]) rfl rfl
  have e9':stN 5 (.ptr A9 0) (.agg (sdV d l[i])) H8=some (qL,H9):=e9
  have N7:=p7.next;have N8:=p8.next;have N9:=s9.next
  have P9:Prs H' H9:=((P6.trans p7).trans p8).fresh s9 fun B hB=>by omega
  obtain⟨H10,A10,b10,p10,g10,m10,n10⟩:=box P9.ok (.cells (etV l[i]) 99 3 false)
  have hsrc:srcOf 3 (.slice A10 0 1 2) H10=some (1,etV l[i]):=by simp only[srcOf,g10];rfl
  obtain⟨w',H11,e11,gw11,s11,f11⟩:=jA.app (bytes:=32) (m:=1) p10.ok (by decide) (jA.mono hw (P9.trans p10) fun _ _ x=>x) hsrc rfl rfl (by simp;omega) (by decide)
  have N10:=p10.next
  have P11:Prs H4 H11:=(P.trans (P9.trans p10)).fresh s11 fw
  have fl:(l.take (i+1)).flatMap etV=(l.take i).flatMap etV++etV l[i]:=by rw[zM hi,qA];simp
  refine⟨_,H11, ?_,w',rfl,P11, ?_,fun B hB=> ?_⟩
  ·have hiI:((i:Nat):Int)< ((l.length:Nat):Int):=by omega
   have hi1:((i:Nat):Int)+((1:Nat):Int)=((i+1:Nat):Int):=by omega
   have hS:(AV.str 0 0)=S []:=rfl
   have hbx:bxV 48 (.agg [S [],S []])=some (.cells [S [],S []] 48 1 false,fun A=> .ptr A 0):=rfl
   have hbs:bxV 174 (.agg [S [], .int .i64 ((0:Nat):Int), .int .i64 ((0:Nat):Int),S [], .bool false])=some (.cells sd0 174 1 false,fun A=> .ptr A 0):=rfl
   have i2':ldN 2 (.ptr A' o) H'=some (.agg [S (yE d l[i].c),S (wQ l[i])]):=i2
   have r6:ldN 2 (.ptr A8 0) H6=some (.agg [S (yE d l[i].c),S (wQ l[i])]):=by rw[qP g6];rfl
   have r94:ld1 (.ptr A9 4) H9=some (.bool true):=by rw[qK g9];rfl
   have r93:ldN 3 (.ptr A9 0) H9=some (.agg (etV l[i])):=by rw[qP g9];rfl
   have bl1:u5 99 3 1 [S [], .int .i64 ((0:Nat):Int), .int .i64 ((0:Nat):Int)] [(0, .agg (etV l[i]))]=some (.cells (etV l[i]) 99 3 false,fun A=> .slice A 0 1 2):=rfl
   simp(maxSteps:=999999)(disch:=omega) only[zEJ,zLO,eZ,hiI,i1,i2',hS,hbx,b5,e6',r6,e7,qJ,nth,hbs,b8,e9',r94,r93,bl1,b10,e11,hi1]
  ·show jA 3 _ _ w' _ _
   rw[fl]
   have e:(l.take (i+1)).length=(l.take i).length+1:=by simp;omega
   rw[e];exact gw11
  ·rcases f11 B hB with e | e
   ·exact fw B e
   ·omega) (m+1) _ H4 ⟨.nilSlice,rfl,Stp.refl p4.ok, .inl (Own.nil ..),fun B hB=>(Blk.nil.1 hB).elim⟩ (by omega)
 obtain⟨q,us,H5,e5,w,rfl,P5,hw,fw⟩:=lp
 rw[q9]at hw
 refine⟨H5,w, ?_,P4.trans P5,hw,fun B hB=>by have:=fw B hB;omega⟩
 have last:qU (q+1) (zEJ (dy (m+1)) (m+1)) [.bool (decide (most< (liE d b kv).length)),w,v, .int .i64 ((l.length:Nat):Int), .int .i64 ((l.length:Nat):Int)] H5=some (.exit 0 [.bool (decide (most< (liE d b kv).length)),w],H5):=yB (by simp only[zEJ,eZ,zX])
 have i1: ∀H,f84 (dy (m+1)) (m+1) [.int .i64 ((d:Nat):Int)] H=some (.bool true,H):=fun H=>by
  rw[kY,decide_eq_true (by omega),decide_eq_true (by omega)];rfl
 have t1: ¬((b:Nat):Int)< ((0:Nat):Int):=by omega
 have t2: ¬((most:Nat):Int)< ((0:Nat):Int):=by omega
 have hmn:mn2 (.int .i64 ((b:Nat):Int)) (.int .i64 ((262144:Nat):Int))=some (.int .i64 ((b:Nat):Int)):=by
  have hb:ilt ((262144:Nat):Int) ((b:Nat):Int)=false:=by rw[xF];simp;omega
  simp only[mn2,hb,cond_false]
 have hb1:((b:Nat):Int)+((1:Nat):Int)=((b+1:Nat):Int):=by omega
 have zLE:(AV.str 1 101)=S [101]:=rfl
 have h1:kD .add (S [101]) (S (dig d 4))=some (S (dU d)):=by rw[dP _ _ (by simp[jM])];rfl
 have t00: ¬(((0:Nat):Int)≠((0:Nat):Int)):=by omega
 have hln:lnSl v=some (.int .i64 ((l.length:Nat):Int)):=by rw[hv.lnSl,qB]
 simp(maxSteps:=999999)(disch:=omega) only[f45,eZ,cq,i1,t1,t2,hmn,hb1,e1,e2,zLE,h1,e3,e4,qJ,nth,t00,hln,e5,last,zLP]
theorem zFu (D:Dyn)(n:Nat){H:AH}(hk:H.ok): ∃H' A,f49 D n [.int .i64 ((64:Nat):Int)] H=some (.tuple [.ptr A 0, .int .i64 ((0:Nat):Int)],H')∧Prs H H':=by
 obtain⟨H1,A1,b1,p1,g1,m1,n1⟩:=box hk (.map [6] [])
 obtain⟨H2,A2,b2,p2,g2,m2,n2⟩:=box p1.ok (.map [6] [])
 obtain⟨H3,A3,b3,p3,g3,m3,n3⟩:=box p2.ok (.cells [.int .i64 ((64:Nat):Int), .map A1, .nilSlice, .map A2, .int .i64 ((0:Nat):Int), .nilSlice, .bool false] 163 1 false)
 refine⟨H3,A3, ?_,(p1.trans p2).trans p3⟩
 have a1: ¬((64:Nat):Int)< ((64:Nat):Int):=by omega
 have a2: ¬((8192:Nat):Int)< ((64:Nat):Int):=by omega
 have bs:jT [(0,1),(1,1),(2,1),(3,1),(4,1),(5,1),(6,1)] [.int .i64 ((0:Nat):Int), .nilMap, .nilSlice, .nilMap, .int .i64 ((0:Nat):Int), .nilSlice, .bool false] [(0, .int .i64 ((64:Nat):Int)),(1, .map A1),(3, .map A2)]=some (.agg [.int .i64 ((64:Nat):Int), .map A1, .nilSlice, .map A2, .int .i64 ((0:Nat):Int), .nilSlice, .bool false]):=rfl
 simp(maxSteps:=999999)(disch:=omega) only[f49,f94,eZ,a1,a2,mkM,b1,b2,bs,b3]
theorem zHb (D:Dyn)(n:Nat)(hn:100≤n){H:AH}(hk:H.ok): ∃H' At M,f42 D n [] H=some (.ptr At 0,H')∧Prs H H'∧H.next≤At∧H.next≤M∧jJ H' At M 0 []:=by
 obtain⟨H1,A1,e1,p1⟩:=zFu D n hk
 obtain⟨H2,At,M,e2,p2,m2,m2',ti⟩:=zJo D n hn p1.ok A1 0 (c:= .nilPtr) rfl
 have N1:=p1.next
 refine⟨H2,At,M, ?_,p1.trans p2,by omega,by omega,ti⟩
 have t00: ¬(((0:Nat):Int)≠((0:Nat):Int)):=by omega
 have bz:jT [(0,1),(1,1),(2,1)] [.int .i64 ((0:Nat):Int), .int .i64 ((0:Nat):Int), .int .u64 ((0:Nat):Int)] []=some (.agg (qV pZ)):=rfl
 simp(maxSteps:=999999)(disch:=omega) only[f42,eZ,e1,qJ,nth,bz,e2,t00]
theorem zH8 (d:Nat):fD d []:=⟨trivial,fun p h=>by cases h⟩
theorem zG0 {d:Nat}{nm:Str}{ino:Int}{kv:Kvs}(h:(bF d nm ino kv).2.1≠0):(bF d nm ino kv).2.2=kv:=by
 by_cases h1:1≤ino∧ino≤2147483647
 ·by_cases h2:fE nm=true
  ·by_cases h3:(xY d nm kv).isSome=true
   ·rw[bF,if_pos h1,if_pos h2,if_pos h3]
   ·cases hp:aD (chE d (yX nm) kv)with
    | none=>rw[bF,if_pos h1,if_pos h2,if_neg h3,hp]
    | some p=>rw[bF,if_pos h1,if_pos h2,if_neg h3,hp]at h;exact absurd rfl h
  ·rw[bF,if_pos h1,if_neg h2]
 ·rw[bF,if_neg h1]
theorem zBX {d:Nat}{nm:Str}{i:Nat}{kv:Kvs}(f:fD d kv)(hd:d<2147483648)(h:(bF d nm ((i:Nat):Int) kv).2.1=0): ∃e:En,e.fine∧e.i=i∧e.n=nm∧fE nm=true∧xY d nm kv=none∧(∀q∈kv,q.1≠yE d e.c)∧bF d nm ((i:Nat):Int) kv=(e.c,0,Nd.putP (yE d e.c) (wQ e) kv):=by
 by_cases h1:1≤((i:Nat):Int)∧((i:Nat):Int)≤2147483647
 ·by_cases h2:fE nm=true
  ·by_cases h3:(xY d nm kv).isSome=true
   ·rw[bF,if_pos h1,if_pos h2,if_pos h3]at h;cases h
   ·cases hp:aD (chE d (yX nm) kv)with
    | none=>rw[bF,if_pos h1,if_pos h2,if_neg h3,hp]at h;cases h
    | some p=>
     obtain⟨g1,g2,g3⟩:=f.free (i:=i) hd hp (by omega) (by omega) h2
     refine⟨_,g2,rfl,rfl,h2, ?_,g3, ?_⟩
     ·cases hf:xY d nm kv with
      | none=>rfl
      | some e=>rw[hf]at h3;exact absurd rfl h3
     ·rw[bF,if_pos h1,if_pos h2,if_neg h3,hp];rfl
  ·rw[bF,if_pos h1,if_neg h2]at h;cases h
 ·rw[bF,if_neg h1]at h;cases h
theorem zHM {d:Nat}{nm:Str}{i:Nat}{kv:Kvs}(f:fD d kv)(hd:d<2147483648):fD d (bF d nm ((i:Nat):Int) kv).2.2∧(bF d nm ((i:Nat):Int) kv).2.2.length≤kv.length+1:=by
 by_cases h:(bF d nm ((i:Nat):Int) kv).2.1=0
 ·obtain⟨e,h1,_,_,_,_,_,h2⟩:=zBX f hd h
  rw[h2]
  refine⟨f.put h1, ?_⟩
  have:=Nd.len_put (yE d e.c) (wQ e) f.1
  simp only
  rw[this];split<;>omega
 ·rw[zG0 h];exact⟨f,by omega⟩
theorem zIa {α:Type}(f:α→List AV)(k:Nat)(hf: ∀a,(f a).length=k): ∀(l:List α) (i:Nat) (h:i<l.length),((l.flatMap f).drop (i*k)).take k=f l[i]
 | p::l,0,_=>by
  rw[Nat.zero_mul,List.drop_zero,zR,List.take_left' (hf p)];rfl
 | p::l,i+1,h=>by
  rw[zR,show(i+1)*k=k+i*k by rw[Nat.succ_mul,Nat.add_comm], ← List.drop_drop,List.drop_left' (hf p)]
  exact zIa f k hf l i (by simpa using h)
def EnR (H:AH)(v:AV)(l:List En):Prop:=Rw 3 H v l.length (l.flatMap etV)
theorem EnR.at {H:AH}{v:AV}{l:List En}(h:EnR H v l){i:Nat}(hi:i<l.length): ∃A o,(∀κ (z:Int),z=(i:Int)→jW 3 v (.int κ z)=some (.ptr A o))∧Eng.ldN 3 (.ptr A o) H=some (.agg (etV l[i])):=by
 obtain⟨A,o,c,e,sz,g,h1,h2,h3,h4,h5⟩:=Rw.at h hi
 rw[zIa etV 3 (fun _=>rfl) l i hi]at h5
 exact⟨A,o,h1,by rw[BZ h2 h4,h5]⟩
theorem zLR (e:En):eqA [2,6,6] (.agg (etV e)) (.agg (etV e))=some true:=by
 have h1:=fun x y=>cT .i64 x y
 have h2:QV 2 (S e.n) (S e.n)=some true:=by simp[QV,S]
 simp only[gO]at h1
 simp only[eqA,etV,dV,Nat.succ_eq_add_one,Nat.beq_refl,zF,zU,Bool.and_self,cond_true,xH,h1,h2,decide_true]
theorem UR (m:Nat)(hm:700000000≤m){Hi:AH}{x0 x1:AV}{names:List Str}{At M:Nat}(hx:Strs Hi x0 names)(hl:names.length≤60)(hA:Hi.next≤At)(hM:Hi.next≤M):
  ∀(rr i kf:Nat) {H:AH} {kv:Kvs},i+rr=names.length→rr<kf→Prs Hi H→jJ H At M (200*i) kv→fD 3 kv→kv.length≤i→
   (∃H',qU kf (QN (dy (m+1)) (m+1)) [x0,x1, .ptr At 0, .int .i64 ((i:Nat):Int)] H=some (.ret (.bool true),H')∧Prs Hi H')∨
   (∃H' kv',qU kf (QN (dy (m+1)) (m+1)) [x0,x1, .ptr At 0, .int .i64 ((i:Nat):Int)] H=some (.exit 0 [x1, .ptr At 0],H')∧Prs Hi H'∧jJ H' At M (200*names.length) kv'∧fD 3 kv'∧kv'.length≤names.length)
 | _,_,0,_,_,_,hk,_,_,_,_=>by omega
 | 0,i,kf+1,H,kv,he,_,P,t,f,hkv=>by
  right
  have hge: ¬((i:Nat):Int)< ((names.length:Nat):Int):=by omega
  obtain rfl:i=names.length:=by omega
  refine⟨H,kv,yB ?_,P,t,f,hkv⟩
  simp(maxSteps:=999999)(disch:=omega) only[QN,eZ,hx.lnSl,hge]
 | rr+1,i,kf+1,H,kv,he,hkf,P,t,f,hkv=>by
  have hi:i<names.length:=by omega
  have hiI:((i:Nat):Int)< ((names.length:Nat):Int):=by omega
  obtain⟨p,i1,i2⟩:=(hx.prs P).at hi
  by_cases hbig:500<names[i].length
  ·left
   have hb:((500:Nat):Int)< ((names[i].length:Nat):Int):=by omega
   refine⟨H,fY ?_,P⟩
   simp(maxSteps:=999999)(disch:=omega) only[QN,eZ,hx.lnSl,hiI,i1,i2,jY,hb]
  ·have hb: ¬((500:Nat):Int)< ((names[i].length:Nat):Int):=by omega
   obtain⟨H1,e1,t1,s1⟩:=zAo m hm (nm:=names[i]) (ino:=((10+i:Nat):Int)) t (by omega) (by omega) f (d:=3) (by omega) (by omega) (by omega)
   obtain⟨f1,l1⟩:=zHM (nm:=names[i]) (i:=10+i) f (by omega)
   have P1:Prs Hi H1:=P.fresh s1 fun B hB=>by omega
   have ha:((10:Nat):Int)+((i:Nat):Int)=((10+i:Nat):Int):=by omega
   have hi1:((i:Nat):Int)+((1:Nat):Int)=((i+1:Nat):Int):=by omega
   have body:QN (dy (m+1)) (m+1) [x0,x1, .ptr At 0, .int .i64 ((i:Nat):Int)] H=some (.norm [x0,x1, .ptr At 0, .int .i64 ((i+1:Nat):Int)],H1):=by
    simp(maxSteps:=999999)(disch:=omega) only[QN,eZ,hx.lnSl,hiI,i1,i2,jY,hb,ha,e1,hi1]
   rw[xC body]
   have hL:200*i+200=200*(i+1):=by omega
   rw[hL]at t1
   exact UR m hm hx hl hA hM rr (i+1) kf (by omega) (by omega) P1 t1 f1 (by omega)
theorem zFO (D:Dyn)(n:Nat){H:AH}{v w:AV}{l:List En}(hv:EnR H v l)(hw:EnR H w l)(hl:l.length<n)(hl2:l.length≤1000000):
  qU n (zBA D n) [v,w, .int .i64 ((0:Nat):Int)] H=some (.exit 2 [],H):=by
 refine wM (fun i=>[v,w, .int .i64 ((i:Nat):Int)]) l.length (fun i hi=> ?_) (fun k=> ?_) n (by omega)
 ·have hiI:((i:Nat):Int)< ((l.length:Nat):Int):=by omega
  have hi1:((i:Nat):Int)+((1:Nat):Int)=((i+1:Nat):Int):=by omega
  obtain⟨A,o,i1,i2⟩:=hv.at hi
  obtain⟨A',o',j1,j2⟩:=hw.at hi
  have hc:xN .neq (eqA [2,6,6] (.agg (etV l[i])) (.agg (etV l[i])))=some (.bool false):=by rw[zLR,zHp];rfl
  simp(maxSteps:=999999)(disch:=omega) only[zBA,eZ,hw.lnSl,hiI,i1,i2,j1,j2,hc,hi1]
 ·refine yB ?_
  simp(maxSteps:=999999)(disch:=omega) only[zBA,eZ,hw.lnSl,zX]
theorem zHB (m:Nat)(hm:700000000≤m){Hi H:AH}{nm:Str}{kv:Kvs}{At M:Nat}(hnm:nm.length≤500)(hA:Hi.next≤At)(hM:Hi.next≤M)(P:Prs Hi H)(t:jJ H At M 12000 kv)(f:fD 3 kv)(hkv:kv.length≤60):
  ∃H',zBB (dy (m+1)) (m+1) [S nm, .ptr At 0] H=some (.ret (.bool true),H')∧Prs Hi H':=by
 have lt:=t.lt
 obtain⟨H1,v1,e1,p1,r1,f1⟩:=zBF m hm (d:=3) (b:=0) (most:=64) t (by omega) (by omega) f (by omega) (by omega) (by omega) (by omega)
 have N1:=p1.next
 obtain⟨H2,e2,t2,s2⟩:=zAo m hm (nm:=nm) (ino:=((9:Nat):Int)) (t.prs p1) (by omega) (by omega) f (d:=3) (by omega) (by omega) (by omega)
 obtain⟨l,hl⟩: ∃l,l=(liE 3 0 kv).take 64:=⟨_,rfl⟩
 rw[← hl]at r1
 have hll:l.length≤64:=by rw[hl,zG];omega
 have N2:=s2.next
 have R1:EnR H1 v1 l:=r1.row
 have R2:EnR H2 v1 l:=Rw.stp R1 s2 fun B hB e=>by have:=f1 B hB;omega
 have P2:Prs Hi H2:=(P.trans p1).fresh s2 fun B hB=>by omega
 have rest: ∀ {H5:AH} {L5:Nat},L5≤15000→Prs Hi H5→H1.next≤H5.next→jJ H5 At M L5 kv→EnR H5 v1 l→ ∃H',zF4 (dy (m+1)) (m+1) [.ptr At 0,v1, .bool (!decide (64< (liE 3 0 kv).length)), .int .i64 ((0:Nat):Int)] H5=some (.ret (.bool true),H')∧Prs Hi H':=by
  intro H5 L5 hL5 P5 hn5 t5 R5
  obtain⟨H6,v2,e6,p6,r6,f6⟩:=zBF m hm (d:=3) (b:=0) (most:=64) t5 (by omega) (by omega) f (by omega) (by omega) (by omega) (by omega)
  rw[← hl]at r6
  have R6:EnR H6 v2 l:=r6.row
  have R56:EnR H6 v1 l:=Rw.stp R5 p6 fun _ _ x=>x
  have same:=zFO (dy (m+1)) (m+1) R56 R6 (by omega) (by omega)
  refine⟨H6, ?_,P5.trans p6⟩
  have t00: ¬(((0:Nat):Int)≠((0:Nat):Int)):=by omega
  have tl: ¬(((l.length:Nat):Int)≠((l.length:Nat):Int)):=by omega
  simp(maxSteps:=999999)(disch:=omega) only[zF4,eZ,e6,qJ,nth,t00,beq_self_eq_true,Bool.not_true,Bool.false_eq_true,if_false,R56.lnSl,R6.lnSl,tl,same,zIy]
 by_cases hz:(bF 3 nm ((9:Nat):Int) kv).2.1=0
 ·obtain⟨e,g1,g2,g3,g4,g5,g6,g7⟩:=zBX f (by omega) hz
  have f2:=f.put g1
  have hlen:(Nd.putP (yE 3 e.c) (wQ e) kv).length≤61:=by
   have:=Nd.len_put (yE 3 e.c) (wQ e) f.1
   rw[this];split<;>omega
  have hfind:=f.find_put (by omega) g1 g3 g5
  rw[g7]at e2 t2
  simp only at e2 t2
  obtain⟨H3,e3,p3⟩:=zHg m hm (nm:=nm) t2 (by omega) (by omega) f2 (d:=3) (by omega) (by omega) (by omega)
  have hfv:VT 3 nm (Nd.putP (yE 3 e.c) (wQ e) kv)=[.int .i64 ((9:Nat):Int), .int .i64 ((e.c:Nat):Int), .int .i64 ((0:Nat):Int)]:=by
   simp only[VT,g4,cond_true,hfind,g2]
  rw[hfv]at e3
  obtain⟨H4,e4,t4,s4⟩:=zAo m hm (nm:=nm) (ino:=((8:Nat):Int)) (t2.prs p3) (by omega) (by omega) f2 (d:=3) (by omega) (by omega) (by omega)
  have hadd:bF 3 nm ((8:Nat):Int) (Nd.putP (yE 3 e.c) (wQ e) kv)=(0,6,Nd.putP (yE 3 e.c) (wQ e) kv):=by
   rw[bF,if_pos (by omega),if_pos g4,if_pos (by rw[hfind];rfl)]
  rw[hadd]at e4 t4
  simp only at e4 t4
  obtain⟨H5,e5,t5,s5⟩:=zHk m hm (nm:=nm) t4 (by omega) (by omega) f2 (d:=3) (by omega) (by omega) (by omega)
  have hhere:KT 3 nm (Nd.putP (yE 3 e.c) (wQ e) kv)=some e:=by simp only[KT,g4,cond_true,hfind]
  have hdv:zFp 3 nm (Nd.putP (yE 3 e.c) (wQ e) kv)=[.int .i64 ((9:Nat):Int), .int .i64 ((0:Nat):Int)]:=by simp only[zFp,hhere,g2]
  have hdk:zFq 3 nm (Nd.putP (yE 3 e.c) (wQ e) kv)=kv:=by
   simp only[zFq,hhere]
   exact zK3 f.1 g6
  rw[hdv]at e5
  rw[hdk]at t5
  have N3:=p3.next;have N4:=s4.next;have N5:=s5.next
  have far: ∀B,Blk v1 B→ ¬(B=At∨B=M):=fun B hB e=>by have:=f1 B hB;omega
  have R5:EnR H5 v1 l:=Rw.stp (Rw.stp (Rw.stp R2 p3 fun _ _ x=>x) s4 far) s5 far
  have P5:Prs Hi H5:=(((P2.trans p3).fresh s4 fun B hB=>by omega)).fresh s5 fun B hB=>by omega
  obtain⟨H6,e6,P6⟩:=rest (by omega) P5 (by omega) t5 R5
  refine⟨H6, ?_,P6⟩
  have t00: ¬(((0:Nat):Int)≠((0:Nat):Int)):=by omega
  have t99: ¬(((9:Nat):Int)≠((9:Nat):Int)):=by omega
  have t66: ¬(((6:Nat):Int)≠((6:Nat):Int)):=by omega
  simp(maxSteps:=999999)(disch:=omega) only[zBB,eZ,e1,qJ,nth,e2,e3,e4,e5,t00,t99,t66,e6]
 ·have hno:=zG0 hz
  rw[hno]at t2
  obtain⟨H6,e6,P6⟩:=rest (by omega) P2 (by omega) t2 R2
  refine⟨H6, ?_,P6⟩
  have tz: ¬(((bF 3 nm ((9:Nat):Int) kv).2.1:Nat):Int)=((0:Nat):Int):=by omega
  simp(maxSteps:=999999)(disch:=omega) only[zBB,eZ,e1,qJ,nth,e2,tz,e6]
theorem dirBack_walk (m:Nat)(hm:700000000≤m){Hi:AH}(hk:Hi.ok){x0:AV}{names:List Str}{nm:Str}(hx:Strs Hi x0 names):
  ∃H',zKA (dy (m+1)) (m+1) [x0,S nm] Hi=some (.bool true,H')∧Prs Hi H':=by
 obtain⟨H1,At,M,e1,p1,hA,hM,t1⟩:=zHb (dy (m+1)) (m+1) (by omega) hk
 have hz: ∀H,z43 (dy (m+1)) (m+1) [] H=some (.bool true,H):=fun H=>rfl
 by_cases h60:60<names.length
 ·have a1:((60:Nat):Int)< ((names.length:Nat):Int):=by omega
  refine⟨H1, ?_,p1⟩
  simp(maxSteps:=999999)(disch:=omega) only[zKA,eZ,e1,hz,cq,hx.lnSl,a1]
 by_cases h500:500<nm.length
 ·have a1: ¬((60:Nat):Int)< ((names.length:Nat):Int):=by omega
  have a2:((500:Nat):Int)< ((nm.length:Nat):Int):=by omega
  refine⟨H1, ?_,p1⟩
  simp(maxSteps:=999999)(disch:=omega) only[zKA,eZ,e1,hz,cq,hx.lnSl,a1,jY,a2]
 have a1: ¬((60:Nat):Int)< ((names.length:Nat):Int):=by omega
 have a2: ¬((500:Nat):Int)< ((nm.length:Nat):Int):=by omega
 rcases UR m hm (x1:=S nm) hx (by omega) hA hM names.length 0 (m+1) (by omega) (by omega) p1 t1 (zH8 3) (by simp)with⟨H2,e2,P2⟩ | ⟨H2,kv,e2,P2,t2,f2,l2⟩
 ·refine⟨H2, ?_,P2⟩
  simp(maxSteps:=999999)(disch:=omega) only[zKA,eZ,e1,hz,cq,hx.lnSl,a1,jY,a2,e2]
 ·obtain⟨H3,e3,P3⟩:=zHB m hm (nm:=nm) (by omega) hA hM P2 (t2.up (by omega)) f2 (by omega)
  refine⟨H3, ?_,P3⟩
  simp(maxSteps:=999999)(disch:=omega) only[zKA,eZ,e1,hz,cq,hx.lnSl,a1,jY,a2,e2,e3]
end Go.Eng.Sh
end
section
namespace Go.Proofs.YtngkjhifpekkcaaGreat.dirBack
open Go.ChangeShapes Go.WideShapes Go.ChangeAt Go.RowKit
open Go.ChangeMaps (open_string shut_string)
theorem zHs: Tryz.prog.cellsOf 9=1:=by kernel_rfl
theorem zJ0 {H:Type}{enc:TypeId×Value→H}{w:World}{base:Nat}{held:Bool}{v:Value}{d:DataW H}{ps:List MemPlace}(hv: ∃a len cap,v= .slice a len cap)(h:DataW.Trod enc Tryz.prog w base (fun _=>true) held 37 v d ps):
  ∃l:List Go.Eng.Str,Go.Eng.Strs (Go.Eng.H0 w) (Go.Eng.argAV w.heap.size v) l:=by
 obtain⟨a0,len0,cap0,rfl⟩:=hv
 obtain⟨fuel,hf⟩:=h
 exact Go.Eng.strs_arg Tryz.underlying37 Tryz.underlying9 zHs hf
theorem own:ownKnob Tryz.prog.godebug=none:=by kernel_rfl
theorem laid:laidOutB Tryz.prog=true:=by kernel_rfl
set_option maxRecDepth 100000 in
theorem contract (H:Type)(enc:TypeId×Value→H)(W:World)(base:Nat)(args:Array Value)(ds gs:List (DataW H))(before:List MemPlace)
  (hval: ∀(j:Nat) t v, Tryz.f11.params[j]? =some t→args[j]? =some v→Value.okWide Tryz.prog W .any base t v)
  (hW:DataW.Whole enc Tryz.prog Tryz.f11.params.toList Rows.dirBackSpec.vars false W args.toList ds gs before):
  Calls Tryz.prog 11 args W fun e W'=> ∃v,e= .returned v∧Rows.dirBackSpec.post enc Tryz.prog Tryz.f11 false true false false W args v W':=by
 have hW':=hW
 obtain⟨p,q,hA0,hV,rfl,hfz,hnd⟩:=hW
 have hA:DataW.TrodAll enc Tryz.prog W 0 (fun _=>true) true Tryz.f11.params.toList args.toList ds p:=hA0
 rw[Tryz.params11]at hA hval
 obtain⟨v0,vs0,d0,ds0,p0,q0,hargs,rfl,rfl,h0,r0⟩:=trodAll_cons hA
 obtain⟨v1,vs1,d1,ds1,p1,q1,rfl,rfl,rfl,h1,r1⟩:=trodAll_cons r0
 obtain⟨rfl,rfl,rfl⟩:=trodAll_nil r1
 obtain rfl:args= #[v0,v1]:=by cases args;simp_all
 obtain⟨rfl,rfl⟩:=trodVars_none hV
 clear hA0
 have hlt0: ∀x∈p0,x.block<W.heap.size:=fun x hx=>hW'.lt x (by simp[hx])
 obtain⟨ahead,hN⟩:=zJ0 (okWide_slice Tryz.underlying37 (hval 0 37 v0 rfl rfl)) h0
 obtain⟨s,rfl,rfl,rfl,hs⟩:=open_string Tryz.underlying9 (hval 1 9 v1 rfl rfl) h1
 obtain⟨m,hm⟩: ∃m:Nat,700000000≤m:=⟨_,Nat.le_refl _⟩
 obtain⟨H',hrun,hP⟩:=Go.Eng.Sh.dirBack_walk m hm (Go.Eng.H0_ok W) (nm:=s.data.toList) hN
 have hcall:=Go.Eng.calls_param (Go.Eng.Sh.f11z_ok (Go.Eng.Sh.dy_ok (m+1)) (m+1)) W (args:= #[v0, .string s]) (H':=H') (by
  have e2:Go.Eng.argAV W.heap.size (.string s)=Go.Eng.S s.data.toList:=Go.Eng.cellAV_string W.heap.size s
  simp only[List.map_cons,List.map_nil,e2];exact hrun) (fun A hA=>hP.keep A hA (fun x=>x))
 refine hcall.mono fun e W' ⟨he,hb⟩=> ?_
 subst he
 simp only[List.append_nil]at hW'
 refine⟨_,rfl,_,_,_,[],p0++([]++[]),[],hW', ?_, ?_,rfl,hb.frame _,fun h=>by cases h⟩
 ·exact trodAll_cons_mk (shut_bool Tryz.underlying4 _) trodAll_mk0
 ·exact trodAll_cons_mk (Below.trod laid (by kernel_rfl) (of_decide_eq_true (by kernel_rfl)) h0 hb hlt0) (trodAll_cons_mk (shut_string Tryz.underlying9 hs) trodAll_mk0)
set_option maxRecDepth 100000 in
theorem lifted (os:Os)(started:os.Started)(H:Type)(enc:TypeId×Value→H):
  ReturnsInHanded {} Tryz.checked os 11 .any (Rows.dirBackSpec.pre6 enc Tryz.prog Tryz.f11 Rows.dirBackRow.domain false) (Rows.dirBackSpec.post enc Tryz.prog Tryz.f11 false true false false):=by
 refine returnsInHanded_of_change (C:= Tryz.checked) own started (by kernel_rfl) Tryz.func11
  (ChangeSpec.witness6 (enc:=enc) (C:= Tryz.checked) false ⟨#[], #[.slice none 0 0, .string .empty],[]⟩ 8 (by kernel_rfl) (by kernel_rfl) (by kernel_rfl) (by kernel_rfl)) ?_
 intro W base args ds gs before hval hW _ _
 exact contract H enc W base args ds gs before hval hW
theorem holds:Rows.DirBackSaid:=
 OpenClaim.holds_of_wide 11 Tryz.f11 rfl rfl rfl rfl rfl rfl rfl ⟨rfl,rfl,rfl,rfl,rfl⟩ rfl rfl rfl rfl rfl (by kernel_rfl) Tryz.func11 (by kernel_rfl)
  (of_decide_eq_true (by kernel_rfl)) (by unfold Func.isWrapper;first | (rw[if_pos (by decide+kernel)];kernel_rfl) | (rw[if_neg (by decide+kernel)];exact⟨rfl,rfl⟩))
  (fun os started H enc _=>lifted os started H enc)
end Go.Proofs.YtngkjhifpekkcaaGreat.dirBack
namespace Go.Proofs.YtngkjhifpekkcaaGreat
theorem dirBack_holds:Rows.DirBackSaid:=dirBack.holds
end Go.Proofs.YtngkjhifpekkcaaGreat
end
