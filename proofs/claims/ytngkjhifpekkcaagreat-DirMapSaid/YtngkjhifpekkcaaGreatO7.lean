/- A checked evaluator for the program, and what it tells, part 7: no condition. -/
import Derived.Test.YtngkjhifpekkcaaGreatO6
import Derived.Test.YtngkjhifpekkcaaGreatRows
import Derived.ProofKit
import Derived.OpenShut
import Derived.Carry
set_option linter.all false
set_option linter.unusedVariables false
set_option linter.unusedSimpArgs false
set_option maxHeartbeats 8000000
set_option maxRecDepth 20000
section
namespace Go.Dr
open Go.Nd (Str Kvs putP delP lookP Srt mayK)
open Go.Eng (ltS y5 y6 xM kN wK)
open Go.Bt (inP y9)
theorem wG (a b:UInt8)(l m:Str):ltS (a::l) (b::m)=(decide (a<b)||(a==b&&ltS l m)):=by
 simp only[ltS,Go.Op.bytesLess]
theorem v7 (a:UInt8)(l m:Str):ltS (a::l) (a::m)=ltS l m:=by
 rw[wG];simp[UInt8.lt_irrefl]
def dig (n:Nat):Nat→Str
 | 0=>[]
 | k+1=>UInt8.ofNat (n / 256 ^ k % 256)::dig n k
theorem jR (n:Nat): ∀k,(dig n k).length=k
 | 0=>rfl
 | k+1=>by simp[dig,jR n k]
theorem zGq (n:Nat): ∀(k i:Nat) (h:i< (dig n k).length),((dig n k)[i]).toNat=n / 256 ^ (k - 1 - i) % 256
 | 0,i,h=>by simp[dig]at h
 | k+1,0,h=>by
  simp only[dig,List.getElem_cons_zero]
  rw[UInt8.toNat_ofNat'];simp
 | k+1,i+1,h=>by
  simp only[dig,List.getElem_cons_succ]
  rw[zGq n k i (by simpa[dig]using h)]
  congr 3;omega
def zEM (a:Nat):Str→Nat
 | []=>a
 | b::l=>zEM (a*256+b.toNat) l
def num (s:Str):Nat:=zEM 0 s
theorem zBB (n:Nat): ∀(k a:Nat),zEM a (dig n k)=a*256 ^ k+n % 256 ^ k
 | 0,a=>by simp[dig,zEM,Nat.mod_one]
 | k+1,a=>by
  simp only[dig,zEM]
  rw[zBB n k,UInt8.toNat_ofNat']
  have h1:n % 256 ^ (k+1)=256 ^ k*(n / 256 ^ k % 256)+n % 256 ^ k:=by
   rw[Nat.pow_succ,Nat.mod_mul,Nat.add_comm]
  rw[h1,Nat.pow_succ,Nat.add_mul]
  have h2:n / 256 ^ k % 256 % 2 ^ 8=n / 256 ^ k % 256:=Nat.mod_eq_of_lt (by have:=Nat.mod_lt (n / 256 ^ k) (show 256>0 by omega);omega)
  rw[h2,Nat.mul_comm (n / 256 ^ k % 256) (256 ^ k),Nat.mul_assoc a,Nat.mul_comm 256 (256 ^ k),Nat.add_assoc,Nat.pow_succ]
theorem vE {n k:Nat}(h:n<256 ^ k):num (dig n k)=n:=by
 rw[num,zBB,Nat.mod_eq_of_lt h];simp
theorem JP: ∀(s:Str) (a:Nat),zEM a s< (a+1)*256 ^ s.length
 | [],a=>by simp[zEM]
 | b::l,a=>by
  have:=JP l (a*256+b.toNat)
  have hb:=b.toNat_lt
  simp only[zEM,zF,Nat.pow_succ]
  refine zR this ?_
  rw[Nat.mul_comm (256 ^ l.length) 256, ← Nat.mul_assoc]
  exact zT _ (by omega)
theorem zBC: ∀(s u:Str) (a:Nat),zEM a (s++u)=zEM (zEM a s) u
 | [],_,_=>rfl
 | b::s,u,a=>zBC s u _
theorem BH (n m:Nat): ∀k,ltS (dig n k) (dig m k)=decide (n % 256 ^ k<m % 256 ^ k)
 | 0=>by simp[dig,ltS,Go.Op.bytesLess,Nat.mod_one]
 | k+1=>by
  simp only[dig]
  rw[wG,BH n m k]
  have e: ∀x:Nat,x % 256 ^ (k+1)=256 ^ k*(x / 256 ^ k % 256)+x % 256 ^ k:=fun x=>by
   rw[Nat.pow_succ,Nat.mod_mul,Nat.add_comm]
  have hp:0<256 ^ k:=Nat.pow_pos (by omega)
  have hn:=Nat.mod_lt n hp
  have hm:=Nat.mod_lt m hp
  have hx:=Nat.mod_lt (n / 256 ^ k) (show 256>0 by omega)
  have hy:=Nat.mod_lt (m / 256 ^ k) (show 256>0 by omega)
  rw[e n,e m]
  generalize n / 256 ^ k % 256=x at*
  generalize m / 256 ^ k % 256=y at*
  generalize n % 256 ^ k=u at*
  generalize m % 256 ^ k=v at*
  generalize 256 ^ k=P at*
  have hxy:(UInt8.ofNat x<UInt8.ofNat y)↔x<y:=by
   rw[UInt8.lt_iff_toNat_lt,UInt8.toNat_ofNat',UInt8.toNat_ofNat',Nat.mod_eq_of_lt (by omega),Nat.mod_eq_of_lt (by omega)]
  have hxe:(UInt8.ofNat x==UInt8.ofNat y)=decide (x=y):=by
   rw[Bool.eq_iff_iff,beq_iff_eq,zC]
   constructor
   ·intro h
    have:=congrArg UInt8.toNat h
    rw[UInt8.toNat_ofNat',UInt8.toNat_ofNat',Nat.mod_eq_of_lt (by omega),Nat.mod_eq_of_lt (by omega)]at this
    exact this
   ·rintro rfl;rfl
  rw[Bool.eq_iff_iff,hxe]
  simp only[Bool.or_eq_true,z7,zC,hxy]
  rcases Nat.lt_trichotomy x y with h | h | h
  ·have:P*x+P≤P*y:=by rw[← Nat.mul_succ];exact Nat.mul_le_mul_left _ h
   constructor
   ·intro _;omega
   ·intro _;exact .inl h
  ·subst h
   constructor
   ·rintro(h | ⟨_,h⟩)<;>omega
   ·intro h;exact .inr ⟨rfl,by omega⟩
  ·have:P*y+P≤P*x:=by rw[← Nat.mul_succ];exact Nat.mul_le_mul_left _ h
   constructor
   ·rintro(h | ⟨h,_⟩)<;>omega
   ·intro h;omega
structure Kp where
 n:Nat
 x:Nat
 u:Nat
 r:Str
def hdK (c:Nat):Str:=[114,UInt8.ofNat c]
def zJa (c n:Nat):Str:=hdK c++dig n 4
def valK (k:Kp):Str:=dig k.x 4++dig k.u 8++k.r
def zGf (c:Nat)(k:Kp):Str×Str:=(zJa c k.n,valK k)
def Kp.fine (k:Kp):Prop:=1≤k.n∧k.n≤2147483647∧k.x<4294967296∧k.u<18446744073709551616∧k.r.length≤188
theorem zKA (c:Nat){n m:Nat}(hn:n<4294967296)(hm:m<4294967296):ltS (zJa c n) (zJa c m)=decide (n<m):=by
 show ltS (114::UInt8.ofNat c::dig n 4) (114::UInt8.ofNat c::dig m 4)=_
 rw[v7,v7,BH,Nat.mod_eq_of_lt hn,Nat.mod_eq_of_lt hm]
theorem ZO {c d n m:Nat}(hc:c<256)(hd:d<256)(hn:n<4294967296)(hm:m<4294967296)(h:zJa c n=zJa d m):c=d∧n=m:=by
 have h':(114:UInt8)::UInt8.ofNat c::dig n 4=114::UInt8.ofNat d::dig m 4:=h
 simp only[List.cons.injEq,true_and]at h'
 obtain⟨h1,h2⟩:=h'
 have e1:=congrArg UInt8.toNat h1
 rw[UInt8.toNat_ofNat',UInt8.toNat_ofNat',Nat.mod_eq_of_lt (by omega),Nat.mod_eq_of_lt (by omega)]at e1
 have e2:=congrArg num h2
 rw[vE (by omega),vE (by omega)]at e2
 exact⟨e1,e2⟩
theorem zFd {c:Nat}(hc:c<255)(k v:Str):inP (hdK c) (hdK (c+1)) (k,v)=true↔ ∃t,k=hdK c++t:=by
 have n1:(UInt8.ofNat c).toNat=c:=by rw[UInt8.toNat_ofNat'];omega
 have n2:(UInt8.ofNat (c+1)).toNat=c+1:=by rw[UInt8.toNat_ofNat'];omega
 have h114:(114:UInt8).toNat=114:=rfl
 have hahead:y9 (hdK (c+1)) k=ltS k (hdK (c+1)):=by simp[y9,hdK]
 simp only[inP,hahead,z7,Bool.not_eq_true']
 constructor
 ·rintro⟨h1,h2⟩
  match k,h1,h2 with
  | [],h1,h2=>simp[ltS,Go.Op.bytesLess,hdK]at h1
  | [a],h1,h2=>
   rw[hdK,wG]at h1 h2
   simp only[Bool.or_eq_false_iff,Bool.and_eq_false_iff,decide_eq_false_iff_not,beq_eq_false_iff_ne,Bool.or_eq_true,z7,zC,beq_iff_eq]at h1 h2
   obtain⟨h1,h3⟩:=h1
   rcases h2 with h2 | ⟨h2,_⟩
   ·exact absurd h2 h1
   ·rcases h3 with h3 | h3
    ·exact absurd h2 h3
    ·simp[ltS,Go.Op.bytesLess]at h3
  | a::b::t,h1,h2=>
   rw[hdK,wG,wG]at h1 h2
   simp only[Bool.or_eq_false_iff,Bool.and_eq_false_iff,decide_eq_false_iff_not,beq_eq_false_iff_ne,Bool.or_eq_true,z7,zC,beq_iff_eq,UInt8.lt_iff_toNat_lt,n1,n2,h114]at h1 h2
   obtain⟨h1,h3⟩:=h1
   rcases h2 with h2 | ⟨rfl,h2⟩
   ·omega
   ·rcases h3 with h3 | ⟨h3,h4⟩
    ·exact absurd rfl h3
    ·have hb:b.toNat=c:=by
      rcases h2 with h2 | ⟨h2,h5⟩
      ·omega
      ·cases t<;>simp[ltS,Go.Op.bytesLess]at h5
     refine⟨t, ?_⟩
     have:b=UInt8.ofNat c:=by rw[← UInt8.toNat_inj,n1,hb]
     rw[this];rfl
 ·rintro⟨t,rfl⟩
  constructor
  ·show ltS (114::UInt8.ofNat c::t) (114::UInt8.ofNat c::[])=false
   rw[v7,v7]
   cases t<;>rfl
  ·show ltS (114::UInt8.ofNat c::t) (114::UInt8.ofNat (c+1)::[])=true
   rw[v7,wG]
   simp only[Bool.or_eq_true,zC,UInt8.lt_iff_toNat_lt,n1,n2]
   exact .inl (by omega)
theorem j7 {k v:Str}{p:Str×Str} : ∀ {l:Kvs},Srt l→(p∈putP k v l↔p=(k,v)∨(p∈l∧p.1≠k))
 | [],_=>by simp[putP]
 | (a,b)::l,h=>by
  have ih:=j7 (k:=k) (v:=v) (p:=p) h.2
  simp only[putP]
  split
  ·rename_i e;subst e
   simp only[List.mem_cons]
   constructor
   ·rintro(e | e)
    ·exact .inl e
    ·exact .inr ⟨.inr e,fun e'=>wK (h.1 p e) e'.symm⟩
   ·rintro(e | ⟨e | e,h'⟩)
    ·exact .inl e
    ·exact absurd (by rw[e]) h'
    ·exact .inr e
  ·rename_i hak
   split
   ·rw[List.mem_cons,ih,List.mem_cons]
    constructor
    ·rintro(e | e | e)
     ·exact .inr ⟨.inl e,by rw[e];exact hak⟩
     ·exact .inl e
     ·exact .inr ⟨.inr e.1,e.2⟩
    ·rintro(e | ⟨e | e,h'⟩)
     ·exact .inr (.inl e)
     ·exact .inl e
     ·exact .inr (.inr ⟨e,h'⟩)
   ·rename_i hlt
    have hka:ltS k a=true:=by
     cases hk:ltS k a with
     | true=>rfl
     | false=>exact absurd (xM (by simpa using hlt) hk) hak
    rw[List.mem_cons]
    constructor
    ·rintro(e | e)
     ·exact .inl e
     ·refine .inr ⟨e, ?_⟩
      rcases List.mem_cons.1 e with e | e
      ·rw[e];exact hak
      ·exact fun e'=>wK (y6 hka (h.1 p e)) e'.symm
    ·rintro(e | ⟨e,_⟩)
     ·exact .inl e
     ·exact .inr e
theorem vY {k:Str}{p:Str×Str} : ∀ {l:Kvs},Srt l→(p∈delP k l↔p∈l∧p.1≠k)
 | [],_=>by simp[delP]
 | (a,b)::l,h=>by
  have ih:=vY (k:=k) (p:=p) h.2
  simp only[delP]
  split
  ·rename_i e;subst e
   rw[List.mem_cons]
   constructor
   ·intro e;exact⟨.inr e,fun e'=>wK (h.1 p e) e'.symm⟩
   ·rintro⟨e | e,h'⟩
    ·exact absurd (by rw[e]) h'
    ·exact e
  ·rename_i hak
   rw[List.mem_cons,ih,List.mem_cons]
   constructor
   ·rintro(e | ⟨e,h'⟩)
    ·exact⟨.inl e,by rw[e];exact hak⟩
    ·exact⟨.inr e,h'⟩
   ·rintro⟨e | e,h'⟩
    ·exact .inl e
    ·exact .inr ⟨e,h'⟩
theorem srt_ext: ∀ {a b:Kvs},Srt a→Srt b→(∀p,p∈a↔p∈b)→a=b
 | [],[],_,_,_=>rfl
 | [],y::b,_,_,h=>by have:=(h y).2 (zA ..);simp at this
 | x::a,[],_,_,h=>by have:=(h x).1 (zA ..);simp at this
 | (k,v)::a,(k',v')::b,ha,hb,h=>by
  have e:(k,v)=(k',v'):=by
   rcases List.mem_cons.1 ((h (k,v)).1 (zA ..))with e | e
   ·exact e
   ·rcases List.mem_cons.1 ((h (k',v')).2 (zA ..))with e' | e'
    ·exact e'.symm
    ·have h1:=hb.1 _ e
     have h2:=ha.1 _ e'
     have:=y6 h1 h2
     rw[y5]at this;cases this
  rw[e]
  congr 1
  refine srt_ext ha.2 hb.2 fun p=>⟨fun hp=> ?_,fun hp=> ?_⟩
  ·rcases List.mem_cons.1 ((h p).1 (z8 _ hp))with e' | e'
   ·have:=ha.1 p hp
    rw[e', ← e,y5]at this;cases this
   ·exact e'
  ·rcases List.mem_cons.1 ((h p).2 (z8 _ hp))with e' | e'
   ·have:=hb.1 p hp
    rw[e',e,y5]at this;cases this
   ·exact e'
theorem ZL {k v:Str} : ∀ {l:Kvs},Srt l→(lookP k l=some v↔(k,v)∈l)
 | [],_=>by simp[lookP]
 | (a,b)::l,h=>by
  have ih:=ZL (k:=k) (v:=v) h.2
  simp only[lookP]
  split
  ·rename_i e;subst e
   rw[List.mem_cons]
   constructor
   ·intro e;simp at e;exact .inl (by rw[e])
   ·rintro(e | e)
    ·simp at e;rw[e]
    ·have:=h.1 _ e;rw[y5]at this;cases this
  ·rename_i hak
   rw[ih,List.mem_cons]
   constructor
   ·exact .inr
   ·rintro(e | e)
    ·exact absurd (by simp at e;exact e.1.symm) hak
    ·exact e
def Row (l:List Kp):Prop:=l.Pairwise (fun a b=>a.n<b.n)∧ ∀k∈l,k.fine
theorem zEh (c:Nat): ∀ {l:List Kp},Row l→Srt (l.map (zGf c))
 | [],_=>trivial
 | k::l,⟨h1,h2⟩=>by
  rw[List.pairwise_cons]at h1
  refine⟨fun p hp=> ?_,zEh c ⟨h1.2,fun k hk=>h2 k (z8 _ hk)⟩⟩
  obtain⟨k',hk',rfl⟩:=List.mem_map.1 hp
  have a:=h2 k (zA ..)
  have b:=h2 k' (z8 _ hk')
  simp only[zGf]
  rw[zKA c (by have:=a.2.1;omega) (by have:=b.2.1;omega),zC]
  exact h1.1 k' hk'
structure Drc (kv oth:Kvs)(f:Nat→List Kp):Prop where
 srt:Srt kv
 mem: ∀p,p∈kv↔p∈oth∨ ∃c k,k∈f c∧p=zGf c k
 row: ∀c,Row (f c)
 few: ∀c,f c≠[]→1≤c∧c≤16
 oth: ∀p∈oth,∀c,1≤c→c≤16→ ∀t,p.1≠hdK c++t
theorem Drc.range {kv oth:Kvs}{f:Nat→List Kp}(h:Drc kv oth f){c:Nat}(h1:1≤c)(h2:c≤16):kv.filter (inP (hdK c) (hdK (c+1)))=(f c).map (zGf c):=by
 refine srt_ext (Bt.srt_sub List.filter_sublist h.srt) (zEh c (h.row c)) fun p=> ?_
 obtain⟨k,v⟩:=p
 rw[List.mem_filter,h.mem,zFd (by omega),List.mem_map]
 constructor
 ·rintro⟨e | ⟨d,k',hk,e⟩,t,ht⟩
  ·exact absurd ht (h.oth _ e c h1 h2 t)
  ·have hd:=h.few d (fun e=>by rw[e]at hk;simp at hk)
   have hkk:k=zJa d k'.n:=by rw[zGf,zD]at e;exact e.1
   have:(UInt8.ofNat d)=UInt8.ofNat c:=by
    rw[hkk]at ht
    have ht':(114:UInt8)::UInt8.ofNat d::dig k'.n 4=114::UInt8.ofNat c::t:=ht
    simp only[List.cons.injEq,true_and]at ht'
    exact ht'.1
   have e1:=congrArg UInt8.toNat this
   rw[UInt8.toNat_ofNat',UInt8.toNat_ofNat',Nat.mod_eq_of_lt (by omega),Nat.mod_eq_of_lt (by omega)]at e1
   subst e1
   exact⟨k',hk,e.symm⟩
 ·rintro⟨k',hk,e⟩
  refine⟨.inr ⟨c,k',hk,e.symm⟩,dig k'.n 4, ?_⟩
  rw[zGf,zD]at e
  exact e.1.symm
theorem Drc.del {kv oth:Kvs}{f:Nat→List Kp}(h:Drc kv oth f){c:Nat}(h1:1≤c)(h2:c≤16){k:Kp}(hk:k.fine):Drc (delP (zJa c k.n) kv) oth (fun d=>if d=c then(f c).filter (fun j=>j.n≠k.n)else f d) where
 srt:=Nd.srt_del _ h.srt
 mem:=fun p=>by
  rw[vY h.srt,h.mem]
  constructor
  ·rintro⟨e | ⟨d,k',hk',e⟩,hne⟩
   ·exact .inl e
   ·refine .inr ⟨d,k', ?_,e⟩
    by_cases hd:d=c
    ·subst hd
     rw[if_pos rfl,List.mem_filter]
     refine⟨hk', ?_⟩
     simp only[ne_eq,decide_not,Bool.not_eq_true',decide_eq_false_iff_not]
     intro e'
     rw[e,zGf,e']at hne;exact hne rfl
    ·rw[if_neg hd];exact hk'
  ·rintro(e | ⟨d,k',hk',e⟩)
   ·exact⟨.inl e,h.oth _ e c h1 h2 _⟩
   ·by_cases hd:d=c
    ·subst hd
     rw[if_pos rfl,List.mem_filter]at hk'
     refine⟨.inr ⟨d,k',hk'.1,e⟩,fun e'=> ?_⟩
     rw[e,zGf]at e'
     have a:=((h.row d).2 k' hk'.1).2.1
     have b:=hk.2.1
     have:=(ZO (by omega) (by omega) (by omega) (by omega) e').2
     simp[this]at hk'
    ·rw[if_neg hd]at hk'
     refine⟨.inr ⟨d,k',hk',e⟩,fun e'=>hd ?_⟩
     rw[e,zGf]at e'
     have a:=((h.row d).2 k' hk').2.1
     have b:=hk.2.1
     have hdd:=h.few d (fun e=>by rw[e]at hk';simp at hk')
     exact(ZO (by omega) (by omega) (by omega) (by omega) e').1
 row:=fun d=>by
  by_cases hd:d=c
  ·rw[if_pos hd]
   exact⟨(h.row c).1.sublist List.filter_sublist,fun k hk=>(h.row c).2 k ((List.mem_filter.1 hk).1)⟩
  ·rw[if_neg hd];exact h.row d
 few:=fun d hd=>by
  by_cases e:d=c
  ·subst e;exact⟨h1,h2⟩
  ·rw[if_neg e]at hd;exact h.few d hd
 oth:=h.oth
theorem Drc.put {kv oth:Kvs}{f:Nat→List Kp}(h:Drc kv oth f){c:Nat}(h1:1≤c)(h2:c≤16){k:Kp}(hk:k.fine)(hn: ∀j∈f c,j.n<k.n):Drc (putP (zJa c k.n) (valK k) kv) oth (fun d=>if d=c then f c++[k]else f d) where
 srt:=Nd.srt_put _ _ h.srt
 mem:=fun p=>by
  rw[j7 h.srt,h.mem]
  constructor
  ·rintro(e | ⟨e | ⟨d,k',hk',e⟩,hne⟩)
   ·exact .inr ⟨c,k,by simp,e⟩
   ·exact .inl e
   ·refine .inr ⟨d,k', ?_,e⟩
    by_cases hd:d=c
    ·subst hd;rw[if_pos rfl];exact zU _ hk'
    ·rw[if_neg hd];exact hk'
  ·rintro(e | ⟨d,k',hk',e⟩)
   ·exact .inr ⟨.inl e,h.oth _ e c h1 h2 _⟩
   ·by_cases hd:d=c
    ·subst hd
     rw[if_pos rfl]at hk'
     rcases List.mem_append.1 hk' with hk' | hk'
     ·refine .inr ⟨.inr ⟨d,k',hk',e⟩,fun e'=> ?_⟩
      rw[e,zGf]at e'
      have a:=((h.row d).2 k' hk').2.1
      have b:=hk.2.1
      have:=(ZO (by omega) (by omega) (by omega) (by omega) e').2
      have:=hn k' hk'
      omega
     ·simp only[List.mem_singleton]at hk'
      subst hk';exact .inl e
    ·rw[if_neg hd]at hk'
     refine .inr ⟨.inr ⟨d,k',hk',e⟩,fun e'=>hd ?_⟩
     rw[e,zGf]at e'
     have a:=((h.row d).2 k' hk').2.1
     have b:=hk.2.1
     have hdd:=h.few d (fun e=>by rw[e]at hk';simp at hk')
     exact(ZO (by omega) (by omega) (by omega) (by omega) e').1
 row:=fun d=>by
  by_cases hd:d=c
  ·rw[if_pos hd]
   refine⟨?_,fun j hj=> ?_⟩
   ·rw[List.pairwise_append]
    exact⟨(h.row c).1,by simp,fun a ha b hb=>by simp only[List.mem_singleton]at hb;subst hb;exact hn a ha⟩
   ·rcases List.mem_append.1 hj with hj | hj
    ·exact(h.row c).2 j hj
    ·simp only[List.mem_singleton]at hj;subst hj;exact hk
  ·rw[if_neg hd];exact h.row d
 few:=fun d hd=>by
  by_cases e:d=c
  ·subst e;exact⟨h1,h2⟩
  ·rw[if_neg e]at hd;exact h.few d hd
 oth:=h.oth
end Go.Dr
end
section
namespace Go.Eng.Sh
open Go.Nd (Ptr yI qP Kvs Srt)
open Go.Bt
def jC (fr to:Str)(kv:Kvs):Kvs:=kv.filter (inP fr to)
theorem ZA {fr to:Str}{kv:Kvs}(ht:to≠[])(h:ltS fr to=false):jC fr to kv=[]:=by
 rw[jC,List.filter_eq_nil_iff]
 intro p _ hp
 simp only[inP,y9,z7,Bool.not_eq_true',Bool.or_eq_true,List.isEmpty_iff,ht,false_or]at hp
 have h1:=not_lt (a:=p.1) (b:=fr) (by simp[hp.1])
 have:=bX h1 hp.2
 rw[h]at this;cases this
theorem zEs (m:Nat)(hm:700000000≤m){H:AH}{At M L:Nat}{kv:Kvs}(t:jE H At M L kv)(hL:L≤1000000)(hkv:kv.length≤1000000000)(fr to:Str){most:Nat}(hmo:most≤2147483647)(hlen:(jC fr to kv).length≤most):
  ∃H' v,f90 (dy (m+1)) (m+1) [.ptr At 0,S fr,S to, .int .i64 ((most:Nat):Int)] H=some (.tuple [v, .bool false, .int .i64 ((0:Nat):Int)],H')∧Prs H H'∧jF 2 48 H' v (jC fr to kv).length ((jC fr to kv).flatMap prV)∧ ∀B,Blk v B→H.next≤B:=by
 obtain⟨d,c,_,root,es,q,last,rfl,hc,ti,h2,h3,h4,h5⟩:=t
 have hold:=ti.hold
 have lA:=ti.ok.lt ti.gT
 have lM:=ti.ok.lt ti.gM
 have hg:GI0 H.next At M root q H (fun _=>False):=⟨fun _ x=>x,lA,lM,d,c,es,last,ti,hold⟩
 have main: ∀L0,Vis (Qf q []) root fr to L0→L0.length≤8192+q.length→(jG (kV fr to (vL most)) L0 ([],false)).2=(jC fr to kv,false)→ ∃H' v,f90 (dy (m+1)) (m+1) [.ptr At 0,S fr,S to, .int .i64 ((most:Nat):Int)] H=some (.tuple [v, .bool false, .int .i64 ((0:Nat):Int)],H')∧Prs H H'∧jF 2 48 H' v (jC fr to kv).length ((jC fr to kv).flatMap prV)∧ ∀B,Blk v B→H.next≤B:=by
  intro L0 hv hl hr
  obtain⟨H',Wg',v,e,_,s,_,g,f⟩:=VT (zEn H.next At M root q) m hm hg (Nat.le_refl _) hmo hv hl (by omega)
  rw[hr]at e g
  exact⟨H',v,e,s,g,f⟩
 rcases h5 with⟨rfl,rfl⟩ | ⟨s,h,nd,t,S0,rfl,hs,rn,wr,nd0,rfl⟩
 ·exact main [] (.inl ⟨.inl rfl,rfl⟩) (by simp) rfl
 ·by_cases hto:to≠[]∧ltS fr to=false
  ·refine main [] (.inl ⟨.inr hto,rfl⟩) (by simp) ?_
   rw[ZA hto.1 hto.2];rfl
  ·have hto':to=[]∨ltS fr to=true:=by
    by_cases h0:to=[]
    ·exact .inl h0
    ·right
     cases hb:ltS fr to with
     | true=>rfl
     | false=>exact absurd ⟨h0,hb⟩ hto
   obtain⟨_,_,hvl⟩:=KQ (Q:=Qf q []) (fr:=fr) (to:=to) (p:=pp s) rn wr
   obtain⟨_,hql⟩:=JD hs rn wr nd0
   refine main (wN (Qf q []) fr to h (pp s) nd) (.inr ⟨by simp[pp],hto',h,nd,by have:=wr.low hkv;omega, ?_,zDv rn wr,rfl⟩) (by omega) ?_
   ·rw[ZI];simpa[qS]using hs
   ·rw[zB8 rn wr,zEe _ [] (by have:(List.filter (inP fr to) (con h t)).length≤most:=hlen;simpa using this)];rfl
end Go.Eng.Sh
end
section
namespace Go.Eng
theorem QV (s:Str)(k:IntKind){i:Nat}(h:i<s.length):YW (S s) (.int k ((i:Nat):Int))=some (.int .u8 (((s[i]).toNat:Nat):Int)):=by
 have:=zKE s k (z:=((i:Nat):Int)) (by omega) (by simpa using h)
 simpa using this
end Go.Eng
namespace Go.Eng.Sh
open Go.Nd (Ptr yI qP Kvs Srt)
open Go.Bt Go.Dr
theorem zHJ (s:Str){i:Nat}(h:i<s.length):num (s.take (i+1))=num (s.take i)*256+(s[i]).toNat:=by
 rw[num,zM h,zBC];rfl
theorem zMm (s:Str){i:Nat}(h:s.length≤i):num s<256 ^ i:=by
 have h1:=JP s 0
 have h2:256 ^ s.length≤256 ^ i:=Nat.pow_le_pow_right (by omega) h
 rw[num];omega
theorem zGE (x k:Nat):yO (dig x k)=(List.range k).map fun i=>AV.int .u8 ((x / 256 ^ (k - 1 - i) % 256:Nat):Int):=by
 apply List.ext_getElem
 ·simp[cH,jR]
 ·intro i h1 h2
  simp only[yO,List.getElem_map,List.getElem_range]
  rw[zGq]
def gZ (x k i:Nat):List AV:=((List.range k).map fun j=>AV.int .u8 ((if j<i then x / 256 ^ (k - 1 - j) % 256 else 0:Nat):Int))
theorem zD9 (x k:Nat){i:Nat}(h:i<k):(gZ x k i).set i (.int .u8 ((x / 256 ^ (k - 1 - i) % 256:Nat):Int))=gZ x k (i+1):=by
 apply List.ext_getElem
 ·simp[gZ]
 ·intro j h1 h2
  simp only[gZ,List.getElem_set,List.getElem_map,List.getElem_range]
  by_cases e:i=j
  ·subst e;simp
  ·rw[if_neg e]
   by_cases hj:j<i
   ·rw[if_pos hj,if_pos (by omega)]
   ·rw[if_neg hj,if_neg (by omega)]
theorem cv1 {H:AH}{A:Nat}{a:UInt8}{e:Nat}(hk:H.ok)(g:H.h.get A=some (.cells [.int .u8 ((a.toNat:Nat):Int)] e 1 false)):zHd (.slice A 0 1 2) H=some (S [a]):=
 XJ (n:=1) ⟨rfl, .inr (.inr ⟨_,_,_,_,_,_,_,rfl,g,hk.lt g,by simp,rfl⟩)⟩ (by simp)
theorem U0 {c:Nat}(hc:c<256):(UInt8.ofNat c).toNat=c:=by rw[UInt8.toNat_ofNat'];omega
end Go.Eng.Sh
end
section
namespace Go.Di
open Go.Nd (Str Kvs putP delP lookP Srt mayK)
open Go.Eng (ltS y5 y6 xM kN wK)
open Go.Bt (inP y9 bX)
open Go.Dr
def zLU (u:Nat):Str→Nat
 | []=>u
 | b::l=>zLU (Nat.xor u b.toNat*1099511628211 % 18446744073709551616) l
theorem zAh: ∀(s:Str) (u:Nat),u<18446744073709551616→zLU u s<18446744073709551616
 | [],_,h=>h
 | _::l,_,_=>zAh l _ (Nat.mod_lt _ (by omega))
theorem VC: ∀(s:Str) (b:UInt8) (u:Nat),zLU u (s++[b])=Nat.xor (zLU u s) b.toNat*1099511628211 % 18446744073709551616
 | [],_,_=>rfl
 | _::l,b,_=>VC l b _
def zDm (s:Str):Nat:=zLU 14695981039346656037 s
def yZ (s:Str):Nat:=zDm s % 1024
theorem bE (s:Str):yZ s<1024:=Nat.mod_lt _ (by omega)
def hasB (s:Str):Bool:=s.any fun b=>b==0||b==47
def uE (s:Str):Bool:= !(decide (s=[])||decide (s=[46])||decide (s=[46,46])||decide (s=[46,115,110,97,112,115,104,111,116]))&&decide (s.length≤32)&& !hasB s
theorem WJ {s:Str}(h:uE s=true):s.length≤32:=by
 simp only[uE,z7,zC]at h;exact h.1.2
structure En where
 c:Nat
 i:Nat
 n:Str
def En.fine (e:En):Prop:=1≤e.c∧e.c≤262144∧1≤e.i∧e.i≤2147483647∧uE e.n=true∧yZ e.n=(e.c - 1) / 256
def vK (d:Nat):Str:=101::dig d 4
def yD (d c:Nat):Str:=vK d++dig c 4
def xI (e:En):Str:=dig e.i 4++e.n
def wP (d:Nat)(e:En):Str×Str:=(yD d e.c,xI e)
def zIo (p:Str×Str):En:=⟨num (p.1.drop 5),num (p.2.take 4),p.2.drop 4⟩
theorem wF (d:Nat):(vK d).length=5:=by simp[vK,jR]
theorem wI (d c:Nat):(yD d c).length=9:=by simp[yD,wF,jR]
theorem YB {d:Nat}{e:En}(h:e.fine):zIo (wP d e)=e:=by
 obtain⟨h1,h2,h3,h4,_⟩:=h
 have a1:(yD d e.c).drop 5=dig e.c 4:=by rw[yD,List.drop_left' (wF d)]
 have a2:(xI e).take 4=dig e.i 4:=by rw[xI,List.take_left' (jR _ _)]
 have a3:(xI e).drop 4=e.n:=by rw[xI,List.drop_left' (jR _ _)]
 simp only[zIo,wP,a1,a2,a3]
 rw[vE (by omega),vE (by omega)]
theorem zAu (p:Str)(a b:Str):ltS (p++a) (p++b)=ltS a b:=by
 induction p with
 | nil=>rfl
 | cons x p ih=>rw[List.cons_append,List.cons_append,v7,ih]
theorem aJ (d:Nat){a b:Nat}(ha:a<4294967296)(hb:b<4294967296):ltS (yD d a) (yD d b)=decide (a<b):=by
 rw[yD,yD,zAu,BH,Nat.mod_eq_of_lt (by omega),Nat.mod_eq_of_lt (by omega)]
theorem zBH: ∀ {a b:Str} (x:Str),a.length=b.length→ltS a b=true→ltS (a++x) b=true
 | [],[],_,_,h=>by rw[y5]at h;cases h
 | u::a,v::b,x,hl,h=>by
  rw[wG]at h
  rw[List.cons_append,wG]
  simp only[Bool.or_eq_true,z7]at h⊢
  rcases h with h | ⟨h1,h2⟩
  ·exact .inl h
  ·exact .inr ⟨h1,zBH x (by simpa using hl) h2⟩
theorem WO {d e:Nat}(c:Nat)(h:d<e)(he:e<4294967296):ltS (yD d c) (vK e)=true:=by
 rw[yD]
 refine zBH _ (by rw[wF,wF]) ?_
 rw[vK,vK,v7,BH,Nat.mod_eq_of_lt (by omega),Nat.mod_eq_of_lt (by omega)]
 exact decide_eq_true h
theorem U9: ∀ {a b:Str} (x:Str),a.length=b.length→ltS a b=true→ltS a (b++x)=true
 | [],[],_,_,h=>by rw[y5]at h;cases h
 | u::a,v::b,x,hl,h=>by
  rw[wG]at h
  rw[List.cons_append,wG]
  simp only[Bool.or_eq_true,z7]at h⊢
  rcases h with h | ⟨h1,h2⟩
  ·exact .inl h
  ·exact .inr ⟨h1,U9 x (by simpa using hl) h2⟩
theorem zHC {d e:Nat}(c:Nat)(h:d≤e)(he:e<4294967296):ltS (yD e c) (vK d)=false:=by
 rcases Nat.eq_or_lt_of_le h with rfl | h
 ·have:=zAu (vK d) (dig c 4) []
  rw[List.append_nil]at this
  rw[yD,this];rfl
 ·have h1:ltS (vK d) (vK e)=true:=by
   rw[vK,vK,v7,BH,Nat.mod_eq_of_lt (by omega),Nat.mod_eq_of_lt (by omega)]
   exact decide_eq_true h
  exact kN (U9 (dig c 4) (by rw[wF,wF]) h1)
theorem zHX {d a b:Nat}(ha:a<4294967296)(hb:b<4294967296)(h:yD d a=yD d b):a=b:=by
 rw[yD,yD,List.append_cancel_left_eq]at h
 have:=congrArg num h
 rwa[vE (by omega),vE (by omega)]at this
theorem zMH {d a b c:Nat}{v:Str}(ha:a<4294967296)(hb:b<4294967296)(hc:c<4294967296):inP (yD d a) (yD d b) (yD d c,v)=(decide (a≤c)&&decide (c<b)):=by
 have hne:(yD d b).isEmpty=false:=by
  cases h:yD d b with
  | nil=>have:=wI d b;rw[h]at this;simp at this
  | cons _ _=>rfl
 simp only[inP,y9,hne,Bool.false_or,aJ d hc ha,aJ d hc hb]
 congr 1
 rw[← decide_not];simp
theorem zJb {d a c:Nat}{v:Str}(hd:d<2147483648)(ha:a<4294967296)(hc:c<4294967296):inP (yD d a) (vK (d+1)) (yD d c,v)=decide (a≤c):=by
 simp only[inP,y9,aJ d hc ha,WO c (show d<d+1 by omega) (by omega),Bool.or_true,Bool.and_true]
 rw[← decide_not];simp
def gJ (d:Nat)(kv:Kvs):Prop:=Srt kv∧ ∀p∈kv,inP (yD d 1) (vK (d+1)) p=true→ ∃e:En,e.fine∧p=wP d e
theorem zKJ {d a b:Nat}{p:Str×Str}(hd:d<2147483648)(ha:1≤a)(ha2:a<4294967296)(h:inP (yD d a) (yD d b) p=true):inP (yD d 1) (vK (d+1)) p=true:=by
 have hne:(yD d b).isEmpty=false:=by
  cases h:yD d b with
  | nil=>have:=wI d b;rw[h]at this;simp at this
  | cons _ _=>rfl
 simp only[inP,y9,hne,Bool.false_or,z7,Bool.not_eq_true',Bool.or_eq_true]at h⊢
 refine⟨?_, .inr (y6 h.2 (WO b (by omega) (by omega)))⟩
 cases hb:ltS p.1 (yD d 1)with
 | false=>rfl
 | true=>
  have h1:yD d 1=yD d a∨ltS (yD d 1) (yD d a)=true:=by
   by_cases e:a=1
   ·exact .inl (by rw[e])
   ·exact .inr (by rw[aJ d (by omega) ha2];exact decide_eq_true (by omega))
  have:=Bt.lt_of_lt_le hb h1
  rw[this]at h;cases h.1
theorem zI0 {d a:Nat}{p:Str×Str}(ha:1≤a)(ha2:a<4294967296)(h:inP (yD d a) (vK (d+1)) p=true):inP (yD d 1) (vK (d+1)) p=true:=by
 simp only[inP,z7,Bool.not_eq_true']at h⊢
 refine⟨?_,h.2⟩
 cases hb:ltS p.1 (yD d 1)with
 | false=>rfl
 | true=>
  have h1:yD d 1=yD d a∨ltS (yD d 1) (yD d a)=true:=by
   by_cases e:a=1
   ·exact .inl (by rw[e])
   ·exact .inr (by rw[aJ d (by omega) ha2];exact decide_eq_true (by omega))
  have:=Bt.lt_of_lt_le hb h1
  rw[this]at h;cases h.1
def chE (d h:Nat)(kv:Kvs):List En:=(kv.filter (inP (yD d (h*256+1)) (yD d (h*256+257)))).map zIo
def liE (d b:Nat)(kv:Kvs):List En:=(kv.filter (inP (yD d (b+1)) (vK (d+1)))).map zIo
theorem zAt {d:Nat} : ∀ {l:Kvs},(∀p∈l,∃e:En,e.fine∧p=wP d e)→l=(l.map zIo).map (wP d)∧ ∀e∈l.map zIo,e.fine
 | [],_=>⟨rfl,by simp⟩
 | p::l,h=>by
  obtain⟨e,he,rfl⟩:=h p (by simp)
  obtain⟨h1,h2⟩:=zAt (l:=l) fun q hq=>h q (by simp[hq])
  rw[List.map_cons,List.map_cons,YB he, ← h1]
  refine⟨rfl,fun x hx=> ?_⟩
  rcases List.mem_cons.1 hx with rfl | hx
  ·exact he
  ·exact h2 x hx
theorem gJ.chain {d h:Nat}{kv:Kvs}(f:gJ d kv)(hd:d<2147483648)(hh:h<1024):kv.filter (inP (yD d (h*256+1)) (yD d (h*256+257)))=(chE d h kv).map (wP d)∧(∀e∈chE d h kv,e.fine∧yZ e.n=h)∧ ∀e:En,e.fine→(e∈chE d h kv↔wP d e∈kv∧yZ e.n=h):=by
 have hp: ∀p∈kv.filter (inP (yD d (h*256+1)) (yD d (h*256+257))),∃e:En,e.fine∧p=wP d e:=fun p hp=>by
  rw[List.mem_filter]at hp
  exact f.2 p hp.1 (zKJ hd (by omega) (by omega) hp.2)
 obtain⟨h1,h2⟩:=zAt hp
 have hin: ∀e:En,e.fine→(inP (yD d (h*256+1)) (yD d (h*256+257)) (wP d e)=true↔yZ e.n=h):=fun e he=>by
  obtain⟨q1,q2,_,_,_,q6⟩:=he
  rw[wP,zMH (by omega) (by omega) (by omega),q6]
  simp only[z7,zC]
  omega
 have h3: ∀e:En,e.fine→(e∈chE d h kv↔wP d e∈kv∧yZ e.n=h):=fun e he=>by
  constructor
  ·intro hm
   have hm':wP d e∈kv.filter (inP (yD d (h*256+1)) (yD d (h*256+257))):=by rw[h1];exact List.mem_map_of_mem hm
   rw[List.mem_filter]at hm'
   exact⟨hm'.1,(hin e he).1 hm'.2⟩
  ·rintro⟨g1,g2⟩
   have:wP d e∈kv.filter (inP (yD d (h*256+1)) (yD d (h*256+257))):=List.mem_filter.2 ⟨g1,(hin e he).2 g2⟩
   have:=List.mem_map_of_mem (f:=zIo) this
   rwa[YB he]at this
 exact⟨h1,fun e he=>⟨h2 e he,((h3 e (h2 e he)).1 he).2⟩,h3⟩
theorem gJ.list {d b:Nat}{kv:Kvs}(f:gJ d kv)(hd:d<2147483648)(hb:b≤262144):kv.filter (inP (yD d (b+1)) (vK (d+1)))=(liE d b kv).map (wP d)∧(∀e∈liE d b kv,e.fine∧b<e.c)∧ ∀e:En,e.fine→(e∈liE d b kv↔wP d e∈kv∧b<e.c):=by
 have hp: ∀p∈kv.filter (inP (yD d (b+1)) (vK (d+1))),∃e:En,e.fine∧p=wP d e:=fun p hp=>by
  rw[List.mem_filter]at hp
  exact f.2 p hp.1 (zI0 (by omega) (by omega) hp.2)
 obtain⟨h1,h2⟩:=zAt hp
 have hin: ∀e:En,e.fine→(inP (yD d (b+1)) (vK (d+1)) (wP d e)=true↔b<e.c):=fun e he=>by
  obtain⟨q1,q2,_,_,_,q6⟩:=he
  rw[wP,zJb (by omega) (by omega) (by omega)]
  simp only[zC]
  omega
 have h3: ∀e:En,e.fine→(e∈liE d b kv↔wP d e∈kv∧b<e.c):=fun e he=>by
  constructor
  ·intro hm
   have hm':wP d e∈kv.filter (inP (yD d (b+1)) (vK (d+1))):=by rw[h1];exact List.mem_map_of_mem hm
   rw[List.mem_filter]at hm'
   exact⟨hm'.1,(hin e he).1 hm'.2⟩
  ·rintro⟨g1,g2⟩
   have:wP d e∈kv.filter (inP (yD d (b+1)) (vK (d+1))):=List.mem_filter.2 ⟨g1,(hin e he).2 g2⟩
   have:=List.mem_map_of_mem (f:=zIo) this
   rwa[YB he]at this
 exact⟨h1,fun e he=>⟨h2 e he,((h3 e (h2 e he)).1 he).2⟩,h3⟩
def xR (d:Nat)(nm:Str)(kv:Kvs):Option En:=(chE d (yZ nm) kv).find? fun e=>decide (e.n=nm)
theorem gJ.found {d:Nat}{nm:Str}{kv:Kvs}{e:En}(f:gJ d kv)(hd:d<2147483648)(h:xR d nm kv=some e):e.fine∧wP d e∈kv∧e.n=nm:=by
 obtain⟨_,h2,h3⟩:=f.chain hd (bE nm)
 have hm:=List.mem_of_find?_eq_some h
 have hn:=List.find?_some h
 exact⟨(h2 e hm).1,((h3 e (h2 e hm).1).1 hm).1,of_decide_eq_true hn⟩
theorem gJ.find_none {d:Nat}{nm:Str}{kv:Kvs}(f:gJ d kv)(hd:d<2147483648):xR d nm kv=none↔ ∀e:En,e.fine→wP d e∈kv→e.n≠nm:=by
 obtain⟨_,h2,h3⟩:=f.chain hd (bE nm)
 rw[xR,List.find?_eq_none]
 constructor
 ·intro h e he hm hn
  exact h e ((h3 e he).2 ⟨hm,by rw[hn]⟩) (decide_eq_true hn)
 ·intro h e he hn
  exact h e (h2 e he).1 ((h3 e (h2 e he).1).1 he).1 (of_decide_eq_true hn)
def aW (l:List En)(p:Nat):Bool:=l.any fun e=>(e.c - 1) % 256==p
def dK (l:List En):Option Nat:=(List.range 256).find? fun p=> !aW l p
theorem gJ.put {d:Nat}{kv:Kvs}{e:En}(f:gJ d kv)(he:e.fine):gJ d (putP (yD d e.c) (xI e) kv):=
 ⟨Nd.srt_put _ _ f.1,fun p hp hi=>by
  rcases(j7 f.1).1 hp with rfl | ⟨h,_⟩
  ·exact⟨e,he,rfl⟩
  ·exact f.2 p h hi⟩
theorem gJ.del {d:Nat}{kv:Kvs}(f:gJ d kv)(k:Str):gJ d (delP k kv):=
 ⟨Nd.srt_del _ f.1,fun p hp hi=>f.2 p (Nd.mem_del hp) hi⟩
theorem gJ.free {d:Nat}{nm:Str}{kv:Kvs}{i p:Nat}(f:gJ d kv)(hd:d<2147483648)(hp:dK (chE d (yZ nm) kv)=some p)(hi:1≤i)(hi2:i≤2147483647)(hm:uE nm=true):
  p<256∧(⟨yZ nm*256+p+1,i,nm⟩:En).fine∧ ∀q∈kv,q.1≠yD d (yZ nm*256+p+1):=by
 have h1:=List.mem_of_find?_eq_some hp
 have h2:=List.find?_some hp
 rw[List.mem_range]at h1
 have hh:=bE nm
 have hf:(⟨yZ nm*256+p+1,i,nm⟩:En).fine:=⟨by simp only;omega,by simp only;omega,hi,hi2,hm,by simp only;omega⟩
 refine⟨h1,hf,fun q hq e=> ?_⟩
 obtain⟨_,g2,g3⟩:=f.chain hd hh
 have hin:inP (yD d 1) (vK (d+1)) q=true:=by
  obtain⟨a,b⟩:=q
  simp only at e
  rw[e,zJb hd (by omega) (by omega)];exact decide_eq_true (by omega)
 obtain⟨x,hx,rfl⟩:=f.2 q hq hin
 have hc:=zHX (d:=d) (by have:=hx.2.1;omega) (by omega) e
 have hxh:yZ x.n=yZ nm:=by rw[hx.2.2.2.2.2,hc];omega
 have hxm:=(g3 x hx).2 ⟨hq,hxh⟩
 simp only[aW,Bool.not_eq_true',List.any_eq_false,beq_iff_eq]at h2
 exact h2 x hxm (by rw[hc];omega)
end Go.Di
end
section
namespace Go.Eng
theorem zB2 {a b:Nat}(ha:a<18014398509481984)(hb:b<256):qO .or (.int .i64 ((a*256:Nat):Int)) (.int .i64 (b:Int))=some (.int .i64 (((a*256+b):Nat):Int)):=by
 have h3:a*256||| b=a*256+b:=by
  have:=Nat.two_pow_add_eq_or_of_lt (b:=b) (i:=8) (by omega) a
  rw[Nat.mul_comm a 256];exact this.symm
 have hk:keq .i64 .i64=true:=rfl
 have hA:BitVec.ofInt 64 ((a*256:Nat):Int)=BitVec.ofNat 64 (a*256):=BitVec.ofInt_natCast _ _
 have hB:BitVec.ofInt 64 (b:Int)=BitVec.ofNat 64 b:=BitVec.ofInt_natCast _ _
 have hv:(BitVec.ofNat 64 (a*256)||| BitVec.ofNat 64 b).toNat=a*256+b:=by
  rw[BitVec.toNat_or,BitVec.toNat_ofNat,BitVec.toNat_ofNat,Nat.mod_eq_of_lt (by omega),Nat.mod_eq_of_lt (by omega),h3]
 have h6:qO .or (.int .i64 (.ofNat (a*256))) (.int .i64 (.ofNat b))=fX.slow .or .i64 (.ofNat (a*256)) (.ofNat b):=by
  simp only[qO,v6,hk,cond_true,fX,IntKind.signed,Bool.not_true,Bool.false_and,cond_false]
 have h7:fX.slow .or .i64 (.ofNat (a*256)) (.ofNat b)=some (.int .i64 ((a*256+b:Nat):Int)):=by
  have h8:fX.slow .or .i64 (.ofNat (a*256)) (.ofNat b)=fI (IntKind.wrap .i64 ((BitVec.ofInt 64 ((a*256:Nat):Int)||| BitVec.ofInt 64 (b:Int)).toNat:Nat)) (fun n=>some (.int .i64 n)):=rfl
  rw[h8,zAE,hA,hB,hv,wrap_i64 (by omega) (by omega)]
 exact h6.trans h7
theorem BX {a b:Nat}(ha:a<18446744073709551616)(hb:b<256):qO .xor (.int .u64 ((a:Nat):Int)) (.int .u64 (b:Int))=some (.int .u64 ((Nat.xor a b:Nat):Int))∧Nat.xor a b<18446744073709551616:=by
 have h1:Nat.blt a (ZN .u64)=true:=by rw[zI];exact ha
 have h2:Nat.blt b (ZN .u64)=true:=by rw[zI];exact Nat.lt_trans hb (by decide)
 have hl:Nat.xor a b<18446744073709551616:=Nat.xor_lt_two_pow (n:=64) ha (Nat.lt_trans hb (by decide))
 have hk:keq .u64 .u64=true:=rfl
 have h5:IntKind.wrap .u64 ((Nat.xor a b:Nat):Int)=((Nat.xor a b:Nat):Int):=by rw[wrap_u64];omega
 have h4:fX .xor .u64 (.ofNat a) (.ofNat b)=some (.int .u64 ((Nat.xor a b:Nat):Int)):=by
  simp only[fX,IntKind.signed,Bool.not_false,h1,h2,Bool.and_self,cond_true,kX,Int.ofNat_eq_natCast,h5]
 have h6:qO .xor (.int .u64 (.ofNat a)) (.int .u64 (.ofNat b))=fX .xor .u64 (.ofNat a) (.ofNat b):=by simp only[qO,v6,hk,cond_true]
 exact⟨h6.trans h4,hl⟩
theorem zII {a:Nat}(ha:a<18446744073709551616):qO .and (.int .u64 ((a:Nat):Int)) (.int .u64 ((1023:Nat):Int))=some (.int .u64 ((a % 1024:Nat):Int)):=by
 have h1:Nat.blt a (ZN .u64)=true:=by rw[zI];exact ha
 have h2:Nat.blt 1023 (ZN .u64)=true:=rfl
 have hl:Nat.land a 1023=a % 1024:=Nat.and_two_pow_sub_one_eq_mod a 10
 have hk:keq .u64 .u64=true:=rfl
 have h5:IntKind.wrap .u64 ((a % 1024:Nat):Int)=((a % 1024:Nat):Int):=by rw[wrap_u64];omega
 have h4:fX .and .u64 (.ofNat a) (.ofNat 1023)=some (.int .u64 ((a % 1024:Nat):Int)):=by
  simp only[fX,IntKind.signed,Bool.not_false,h1,h2,Bool.and_self,cond_true,hl,kX,Int.ofNat_eq_natCast,h5]
 have h6:qO .and (.int .u64 (.ofNat a)) (.int .u64 (.ofNat 1023))=fX .and .u64 (.ofNat a) (.ofNat 1023):=by simp only[qO,v6,hk,cond_true]
 exact h6.trans h4
end Go.Eng
namespace Go.Eng.Sh
open Go.Nd (Ptr yI qP Kvs Srt)
open Go.Bt Go.Dr Go.Di
theorem slA4 (A:Nat):fH 4 1 (.ptr A 0) none none none=some (.slice A 0 4 8):=rfl
theorem dL (D:Dyn)(n:Nat)(hn:100≤n){H:AH}(hk:H.ok)(x:Nat)(hx:x<9223372036854775808):
  ∃H',f89 D n [.int .i64 ((x:Nat):Int)] H=some (S (dig x 4),H')∧Prs H H':=by
 obtain⟨H1,A,b1,p1,g1,m1,n1⟩:=box hk (.cells (gZ x 4 0) 232 1 false)
 have hb1: ∀K,bA (some (.cells [(.int .u8 ((0:Nat):Int)),(.int .u8 ((0:Nat):Int)),(.int .u8 ((0:Nat):Int)),(.int .u8 ((0:Nat):Int))] 232 1 false,fun A=> .ptr A 0)) H K=K (.ptr A 0) H1:=fun K=>b1 _ K
 have lp:=v8 (b:=zFs D n) 4 (fun i us H'=>us=[.int .i64 ((x:Nat):Int), .ptr A 0, .int .i64 ((i:Nat):Int)]∧Prs H H'∧H'.h.get A=some (.cells (gZ x 4 i) 232 1 false)) (fun i us H' hi ⟨hus,P,g⟩=>by
  subst hus
  obtain⟨H2,e2,g2,s2⟩:=zJ8 P.ok g (o:=i) (x:= .int .u8 ((x / 256 ^ (4 - 1 - i) % 256:Nat):Int)) rfl (by simp[gZ];omega)
  rw[zD9 x 4 hi]at g2
  refine⟨_,H2, ?_,rfl,P.fresh s2 (fun B hB=>by omega),g2⟩
  have hs2:((3:Nat):Int) - ((i:Nat):Int)=((4 - 1 - i:Nat):Int):=by omega
  have hm8:((8:Nat):Int)*((4 - 1 - i:Nat):Int)=((8*(4 - 1 - i):Nat):Int):=by omega
  have hpw:(2:Nat) ^ (8*(4 - 1 - i))=256 ^ (4 - 1 - i):=zEy _
  have hshr:qO .shr (.int .i64 ((x:Nat):Int)) (.int .i64 ((8*(4 - 1 - i):Nat):Int))=some (.int .i64 ((x / 256 ^ (4 - 1 - i):Nat):Int)):=by
   rw[zCr _ _ (by omega) (show 8*(4 - 1 - i)≤64 by omega), ← hpw]
   congr 2
   all_goals(rw[Int.natCast_ediv,Int.natCast_pow];rfl)
  have hw:IntKind.wrap .u8 ((x / 256 ^ (4 - 1 - i):Nat):Int)=((x / 256 ^ (4 - 1 - i) % 256:Nat):Int):=by rw[wrap_u8];omega
  have hix:QW 4 1 (.ptr A 0) (.int .i64 ((i:Nat):Int))=some (.ptr A i):=by rw[dU 4 A 0 .i64 i rfl hi,Nat.zero_add]
  have hiI:((i:Nat):Int)< ((4:Nat):Int):=by omega
  have hi1:((i:Nat):Int)+((1:Nat):Int)=((i+1:Nat):Int):=by omega
  simp(maxSteps:=999999)(disch:=omega) only[zFs,eZ,hiI,hs2,hm8,hshr,hw,hix,e2,hi1]) n _ H1 ⟨rfl,p1,g1⟩ (by omega)
 obtain⟨r,us,H2,e2,rfl,P2,g2⟩:=lp
 refine⟨H2, ?_,P2⟩
 have last:qV (r+1) (zFs D n) [.int .i64 ((x:Nat):Int), .ptr A 0, .int .i64 ((4:Nat):Int)] H2=some (.exit 0 [.ptr A 0],H2):=yB (by simp only[zFs,eZ,zX])
 have hcv:zHd (.slice A 0 4 8) H2=some (S (dig x 4)):=XJ (n:=4) ⟨by simp[cH,jR], .inr (.inr ⟨_,_,_,_,_,_,_,rfl,g2,P2.ok.lt g2,by simp[gZ],by
  rw[zGE,List.drop_zero,zJ (by simp[gZ]),gZ]
  refine List.map_congr_left fun j hj=> ?_
  rw[if_pos (by simpa using hj)]⟩)⟩ (by simp)
 simp(maxSteps:=999999)(disch:=omega) only[f89,eZ,hb1,e2,last,zMO,slA4,hcv]
theorem XF (D:Dyn)(n:Nat)(hn:100≤n){H:AH}(hk:H.ok){d c:Nat}(hd:d<9223372036854775808)(hc:c<9223372036854775808):
  ∃H',f88 D n [.int .i64 ((d:Nat):Int), .int .i64 ((c:Nat):Int)] H=some (S (yD d c),H')∧Prs H H':=by
 obtain⟨H1,e1,p1⟩:=dL D n hn hk d hd
 obtain⟨H2,e2,p2⟩:=dL D n hn p1.ok c hc
 refine⟨H2, ?_,p1.trans p2⟩
 have hS:(AV.str 1 101)=S [101]:=rfl
 have h1:k7 .add (S [101]) (S (dig d 4))=some (S (vK d)):=by rw[cK _ _ (by simp[jR])];rfl
 have h2:k7 .add (S (vK d)) (S (dig c 4))=some (S (yD d c)):=by rw[cK _ _ (by simp[jR,wF])];rfl
 simp(maxSteps:=999999)(disch:=omega) only[f88,eZ,hS,e1,h1,e2,h2]
theorem BF (D:Dyn)(n:Nat)(hn:100≤n){H:AH}(s:Str)(hs:4≤s.length):f129 D n [S s] H=some (.int .i64 ((num (s.take 4):Nat):Int),H):=by
 have lp:qV n (zCd D n) [S s, .int .i64 ((0:Nat):Int), .int .i64 ((0:Nat):Int)] H=some (.exit 0 [.int .i64 ((num (s.take 4):Nat):Int)],H):=by
  refine wX (fun i=>[S s, .int .i64 ((num (s.take i):Nat):Int), .int .i64 ((i:Nat):Int)]) 4 (fun i hi=> ?_) (fun k=> ?_) n (by omega)
  ·have hb:=zMm (s.take i) (i:=3) (by simp;omega)
   have h7:(256:Nat) ^ 3=16777216:=by decide
   have hx:=QV s .i64 (show i<s.length by omega)
   have hsh:qO .shl (.int .i64 ((num (s.take i):Nat):Int)) (.int .u64 ((8:Nat):Int))=some (.int .i64 ((num (s.take i)*256:Nat):Int)):=by
    rw[zIH _ _ _ (by decide)]
    have h8:(2:Int) ^ 8=256:=by decide
    rw[h8,wrap_i64 (by omega) (by omega)]
    congr 2
   have hc:=(s[i]).toNat_lt
   have hor:=zB2 (a:=num (s.take i)) (b:=(s[i]).toNat) (by omega) (by omega)
   have hw:IntKind.wrap .i64 (((s[i]).toNat:Nat):Int)=(((s[i]).toNat:Nat):Int):=wrap_i64 (by omega) (by omega)
   have hiI:((i:Nat):Int)< ((4:Nat):Int):=by omega
   have hi1:((i:Nat):Int)+((1:Nat):Int)=((i+1:Nat):Int):=by omega
   simp(maxSteps:=999999)(disch:=omega) only[zCd,eZ,hiI,hsh,hx,hw,hor,hi1,zHJ s (show i<s.length by omega)]
  ·refine yB ?_
   simp only[zCd,eZ,zX]
 simp only[f129,eZ,lp,zJx]
theorem zL2 (D:Dyn)(n:Nat){H:AH}(s:Str)(hn:s.length<n)(hs:s.length≤1000000000):f124 D n [S s] H=some (.int .u64 ((zDm s:Nat):Int),H):=by
 have lp:qV n (zC8 D n) [.int .u64 ((14695981039346656037:Nat):Int),S s, .int .i64 ((s.length:Nat):Int), .int .i64 ((0:Nat):Int)] H=some (.exit 0 [.int .u64 ((zDm s:Nat):Int)],H):=by
  refine wX (fun i=>[.int .u64 ((zDm (s.take i):Nat):Int),S s, .int .i64 ((s.length:Nat):Int), .int .i64 ((i:Nat):Int)]) s.length (fun i hi=> ?_) (fun k=> ?_) n (by omega)
  ·have hl:zDm (s.take i)<18446744073709551616:=zAh _ _ (by omega)
   have hx:=QV s .i64 hi
   have hc:=(s[i]).toNat_lt
   obtain⟨hxor,hxl⟩:=BX (a:=zDm (s.take i)) (b:=(s[i]).toNat) hl (by omega)
   have hw:IntKind.wrap .u64 (((s[i]).toNat:Nat):Int)=(((s[i]).toNat:Nat):Int):=by rw[wrap_u64];omega
   have hmul:qO .mul (.int .u64 ((Nat.xor (zDm (s.take i)) (s[i]).toNat:Nat):Int)) (.int .u64 ((1099511628211:Nat):Int))=some (.int .u64 ((zDm (s.take (i+1)):Nat):Int)):=by
    rw[zCv,wrap_u64,zM hi]
    have e:zDm (s.take i++[s[i]])=Nat.xor (zDm (s.take i)) (s[i]).toNat*1099511628211 % 18446744073709551616:=VC _ _ _
    rw[e,Int.natCast_emod,Int.natCast_mul];rfl
   have hiI:((i:Nat):Int)< ((s.length:Nat):Int):=by omega
   have hi1:((i:Nat):Int)+((1:Nat):Int)=((i+1:Nat):Int):=by omega
   simp(maxSteps:=999999)(disch:=omega) only[zC8,eZ,hiI,hx,hw,hxor,hmul,hi1]
  ·refine yB ?_
   simp only[zC8,eZ,zX,qB]
 simp only[f124,f153,eZ,wO,lp,zJq]
theorem XG (D:Dyn)(n:Nat){H:AH}(s:Str)(hn:s.length<n)(hs:s.length≤1000000000):f83 D n [S s] H=some (.int .i64 ((yZ s:Nat):Int),H):=by
 have hl:zDm s<18446744073709551616:=zAh _ _ (by omega)
 have h1:=zII hl
 have hh:=bE s
 have hw:IntKind.wrap .i64 ((zDm s % 1024:Nat):Int)=((yZ s:Nat):Int):=wrap_i64 (by omega) (by omega)
 simp only[f83,eZ,zL2 D n s hn hs,h1,hw]
theorem wC (D:Dyn)(n:Nat){H:AH}(x:Int):f84 D n [.int .i64 x] H=some (.bool (decide (1≤x)&&decide (x≤2147483647)),H):=by
 by_cases h1:(1:Int)≤x
 ·by_cases h2:x≤2147483647
  ·have a1:((1:Nat):Int)≤x:=by omega
   have a2:x≤((2147483647:Nat):Int):=by omega
   simp only[f84,eZ,a1,a2,h1,h2,decide_true,Bool.and_self]
  ·have a1:((1:Nat):Int)≤x:=by omega
   have a2: ¬x≤((2147483647:Nat):Int):=by omega
   simp only[f84,eZ,a1,a2,h1,h2,decide_true,decide_false,Bool.and_false]
 ·have a1: ¬((1:Nat):Int)≤x:=by omega
  simp only[f84,eZ,a1,h1,decide_false,Bool.false_and]
theorem zLf (D:Dyn)(n:Nat){H:AH}(s:Str)(hs:s.length<4294967281):zLz D n [S s, .str 2 12032] H=some (.bool (hasB s),H):=by
 have h1:Nat.blt s.length 4294967281=true:=by rw[zI];exact hs
 have h2:Nat.beq 12032 12032=true:=rfl
 simp only[zLz,zIz,S,h1,h2,Bool.and_self,cond_true,QZ,hasB]
theorem zAV (D:Dyn)(n:Nat){H:AH}(s:Str)(hs:s.length<4294967281):f85 D n [S s] H=some (.bool (uE s),H):=by
 have e0:(AV.str 0 0)=S []:=rfl
 have e1:(AV.str 1 46)=S [46]:=rfl
 have e2:(AV.str 2 11822)=S [46,46]:=rfl
 have e3:(AV.str 9 2147850105812604056366)=S [46,115,110,97,112,115,104,111,116]:=rfl
 have hc:=zLf D n (H:=H) s hs
 by_cases h0:s=[]
 ·have r:uE s=false:=by rw[h0];decide
  have q:_=True:=eq_true h0
  simp(config:= { maxSteps:=1000000}) only[f85,zAI,zAH,zAG,eZ,e0,e1,e2,e3,jJ,q,r]
 by_cases h1:s=[46]
 ·have r:uE s=false:=by rw[h1];decide
  have q:_=True:=eq_true h1
  simp(config:= { maxSteps:=1000000}) only[f85,zAI,zAH,zAG,eZ,e0,e1,e2,e3,jJ,h0,q,r]
 by_cases h2:s=[46,46]
 ·have r:uE s=false:=by rw[h2];decide
  have q:_=True:=eq_true h2
  simp(config:= { maxSteps:=1000000}) only[f85,zAI,zAH,zAG,eZ,e0,e1,e2,e3,jJ,h0,h1,q,r]
 by_cases h3:s=[46,115,110,97,112,115,104,111,116]
 ·have r:uE s=false:=by rw[h3];decide
  have q:_=True:=eq_true h3
  simp(config:= { maxSteps:=1000000}) only[f85,zAI,zAH,zAG,eZ,e0,e1,e2,e3,jJ,h0,h1,h2,q,r]
 by_cases hl:s.length≤32
 ·have r:uE s= !hasB s:=by simp[uE,h0,h1,h2,h3,hl]
  have hlI:((s.length:Nat):Int)≤((32:Nat):Int):=by omega
  simp(config:= { maxSteps:=1000000}) only[f85,zAI,zAH,zAG,eZ,e0,e1,e2,e3,jJ,h0,h1,h2,h3,wO,hlI,hc,r]
 ·have r:uE s=false:=by simp[uE,hl]
  have hlI: ¬((s.length:Nat):Int)≤((32:Nat):Int):=by omega
  simp(config:= { maxSteps:=1000000}) only[f85,zAI,zAH,zAG,eZ,e0,e1,e2,e3,jJ,h0,h1,h2,h3,wO,hlI,r]
theorem avI (k:IntKind)(z:Int):aveq (.int k z) (.int k z)=true:=by simp[aveq,kE,kF]
theorem chkI (k:IntKind)(z:Int)(K:Rs):chk (some (.int k z)) (.int k z) K=K:=j0 rfl (avI _ _)
def sdV (d:Nat)(e:En):List AV:=[S e.n, .int .i64 ((e.i:Nat):Int), .int .i64 ((e.c:Nat):Int),S (yD d e.c), .bool true]
abbrev sd0:List AV:=[S [], .int .i64 ((0:Nat):Int), .int .i64 ((0:Nat):Int),S [], .bool false]
theorem zJK {A:Nat}{H:AH}{l:List AV}{e:TypeId}(h:H.h.get A=some (.cells l e 1 false))(hl:l.length=5):ldN 5 (.ptr A 0) H=some (.agg l):=by
 rw[qQ h,j9 _ _ _ (.inr (by omega)),List.drop_zero, ← hl,qB];rfl
theorem zMe {c:Nat}(h:c<1000000):qO .quo (.int .i64 ((c:Nat):Int)) (.int .i64 ((256:Nat):Int))=some (.int .i64 ((c / 256:Nat):Int)):=by
 rw[zCt _ _ _ (by omega),Int.tdiv_eq_ediv_of_nonneg (by omega),wrap_i64 (by omega) (by omega)]
 rfl
theorem zM9 {c:Nat}(h:c<1000000):qO .rem (.int .i64 ((c:Nat):Int)) (.int .i64 ((256:Nat):Int))=some (.int .i64 ((c % 256:Nat):Int)):=by
 rw[zCs _ _ _ (by omega),Int.tmod_eq_emod_of_nonneg (by omega)]
 rfl
theorem zCg (D:Dyn)(n:Nat)(hn:100≤n){H:AH}(hk:H.ok){d:Nat}{e:En}(hf:e.fine): ∃H',f92 D n [.agg [S (yD d e.c),S (xI e)]] H=some (.tuple [.agg (sdV d e), .bool true],H')∧Prs H H':=by
 obtain⟨f1,f2,f3,f4,f5,f6⟩:=hf
 have f7:=WJ f5
 obtain⟨H1,A1,b1,p1,g1,m1,n1⟩:=box hk (.cells [S (yD d e.c),S (xI e)] 48 1 false)
 obtain⟨H2,A2,b2,p2,g2,m2,n2⟩:=box p1.ok (.cells sd0 174 1 false)
 obtain⟨H3,A4,b3,p3,g3,m3,n3⟩:=box p2.ok (.cells sd0 174 1 false)
 obtain⟨H4,e4,g4,s4,_⟩:=qW p3.ok g3 (l':=[S [], .int .i64 ((0:Nat):Int), .int .i64 ((0:Nat):Int),S (yD d e.c), .bool false]) rfl rfl
 have e4':stN 5 (.ptr A4 0) (.agg [S [], .int .i64 ((0:Nat):Int), .int .i64 ((0:Nat):Int),S (yD d e.c), .bool false]) H3=some (qM,H4):=e4
 obtain⟨H5,e5,g5,s5⟩:=zJ8 s4.ok g4 (o:=2) (x:= .int .i64 ((e.c:Nat):Int)) rfl (by simp)
 obtain⟨H6,e6,g6,s6⟩:=zJ8 s5.ok g5 (o:=1) (x:= .int .i64 ((e.i:Nat):Int)) rfl (by simp)
 obtain⟨H7,e7,g7,s7⟩:=zJ8 s6.ok g6 (o:=0) (x:=S e.n) rfl (by simp)
 obtain⟨H8,e8,g8,s8⟩:=zJ8 s7.ok g7 (o:=4) (x:= .bool true) rfl (by simp)
 have g8:H8.h.get A4=some (.cells (sdV d e) 174 1 false):=g8
 have N1:=p1.next;have N2:=p2.next;have N3:=p3.next;have N4:=s4.next;have N5:=s5.next;have N6:=s6.next;have N7:=s7.next;have N8:=s8.next
 have S38:Stp (fun B=>B=A4) H3 H8:=(((s4.trans s5).trans s6).trans s7).trans s8
 have P8:Prs H H8:=((p1.trans p2).trans p3).fresh S38 fun B hB=>by omega
 have g28:H8.h.get A2=some (.cells sd0 174 1 false):=by rw[S38.keep _ (by omega) (by omega)];exact Prs.get p3 p2.ok g2
 obtain⟨H9,e9,g9,s9,n9⟩:=qW P8.ok g28 (l':=sdV d e) rfl rfl
 have e9':stN 5 (.ptr A2 0) (.agg (sdV d e)) H8=some (qM,H9):=e9
 refine⟨H9, ?_,P8.fresh s9 fun B hB=>by omega⟩
 have l1: ∀ {H':AH},H'.h.get A1=some (.cells [S (yD d e.c),S (xI e)] 48 1 false)→ld1 (.ptr A1 0) H'=some (S (yD d e.c))∧ld1 (.ptr A1 1) H'=some (S (xI e)):=fun g=>⟨by rw[qL g];rfl,by rw[qL g];rfl⟩
 have q2:=Prs.get p2 p1.ok g1
 have q3:=Prs.get p3 p2.ok q2
 have k4: ∀ {H':AH},Stp (fun B=>B=A4) H3 H'→H'.h.get A1=some (.cells [S (yD d e.c),S (xI e)] 48 1 false):=fun s=>by rw[s.keep _ (by omega) (by omega)];exact q3
 have q4:=k4 s4;have q5:=k4 (s4.trans s5);have q6:=k4 ((s4.trans s5).trans s6)
 have hS:(AV.str 0 0)=S []:=rfl
 have hkl:kS (S (yD d e.c))=some (.int .i64 ((9:Nat):Int)):=by rw[wO,wI]
 have vl:(xI e).length=4+e.n.length:=by simp[xI,jR]
 have hvl:kS (S (xI e))=some (.int .i64 ((4+e.n.length:Nat):Int)):=by rw[wO,vl]
 have t9: ¬(((9:Nat):Int)≠((9:Nat):Int)):=by omega
 have t4: ¬((4+e.n.length:Nat):Int)< ((4:Nat):Int):=by omega
 have t1: ¬((e.c:Nat):Int)< ((1:Nat):Int):=by omega
 have t2: ¬((262144:Nat):Int)< ((e.c:Nat):Int):=by omega
 have kd:(yD d e.c).drop 5=dig e.c 4:=by rw[yD,List.drop_left' (wF d)]
 have c1:ZF (S (yD d e.c)) (some (.int .i64 ((5:Nat):Int))) none=some (S (dig e.c 4)):=by rw[zBm _ _ (by omega) (by rw[wI];decide)];exact congrArg (fun z=>some (S z)) kd
 have vd:(xI e).drop 4=e.n:=by rw[xI,List.drop_left' (jR _ _)]
 have c2:ZF (S (xI e)) (some (.int .i64 ((4:Nat):Int))) none=some (S e.n):=by rw[zBm _ _ (by omega) (by rw[vl];simp)];exact congrArg (fun z=>some (S z)) vd
 have d1: ∀H,f129 D n [S (dig e.c 4)] H=some (.int .i64 ((e.c:Nat):Int),H):=fun H=>by rw[BF D n hn _ (by rw[jR];omega),zJ (by rw[jR];omega),vE (by omega)]
 have d2: ∀H,f129 D n [S (xI e)] H=some (.int .i64 ((e.i:Nat):Int),H):=fun H=>by rw[BF D n hn _ (by rw[vl];omega),xI,List.take_left' (jR _ _),vE (by omega)]
 have i1: ∀H,f84 D n [.int .i64 ((e.i:Nat):Int)] H=some (.bool true,H):=fun H=>by
  rw[wC,decide_eq_true (by omega),decide_eq_true (by omega)];rfl
 have y1: ∀H,f85 D n [S e.n] H=some (.bool true,H):=fun H=>by rw[zAV D n _ (by omega),f5]
 have h1: ∀H,f83 D n [S e.n] H=some (.int .i64 (((e.c - 1) / 256:Nat):Int),H):=fun H=>by rw[XG D n _ (by omega) (by omega),f6]
 have hsub:((e.c:Nat):Int) - ((1:Nat):Int)=((e.c - 1:Nat):Int):=by omega
 have hq:=zMe (c:=e.c - 1) (by omega)
 have r52:ld1 (.ptr A4 2) H5=some (.int .i64 ((e.c:Nat):Int)):=by rw[qL g5];rfl
 have r71:ld1 (.ptr A4 1) H7=some (.int .i64 ((e.i:Nat):Int)):=by rw[qL g7];rfl
 have r70:ld1 (.ptr A4 0) H7=some (S e.n):=by rw[qL g7];rfl
 have r72:ld1 (.ptr A4 2) H7=some (.int .i64 ((e.c:Nat):Int)):=by rw[qL g7];rfl
 have r8:ldN 5 (.ptr A4 0) H8=some (.agg (sdV d e)):=zJK g8 rfl
 have r9:ldN 5 (.ptr A2 0) H9=some (.agg (sdV d e)):=zJK g9 rfl
 have hb1:bxV 48 (.agg [S (yD d e.c),S (xI e)])=some (.cells [S (yD d e.c),S (xI e)] 48 1 false,fun A=> .ptr A 0):=rfl
 have hbs:bxV 174 (.agg [S [], .int .i64 ((0:Nat):Int), .int .i64 ((0:Nat):Int),S [], .bool false])=some (.cells sd0 174 1 false,fun A=> .ptr A 0):=rfl
 have bs:jX [(0,3),(3,1),(4,1)] [S [], .int .i64 ((0:Nat):Int), .int .i64 ((0:Nat):Int),S [], .bool false] [(1,S (yD d e.c))]=some (.agg [S [], .int .i64 ((0:Nat):Int), .int .i64 ((0:Nat):Int),S (yD d e.c), .bool false]):=rfl
 simp(maxSteps:=999999)(disch:=omega) only[f92,eZ,hS,hb1,b1,hbs,b2,(l1 q2).1,hkl,t9,bs,b3,e4',(l1 q4).1,c1,d1,e5,r52,t1,t2,(l1 q5).2,hvl,t4,d2,e6,(l1 q6).2,c2,e7,r71,i1,r70,y1,r72,hsub,hq,h1,chkI,e8,r8,e9',r9]
theorem K9 (m:Nat)(hm:100≤m){H4:AH}{d N0:Nat}{v cv:AV}{l:List En}{σ:Type}{step:σ→En→Bool×σ}{IR:σ→AH→Prop}{W:Nat→Prop}(hk4:H4.ok)(hv4:zJM H4 v (l.map (wP d)))(hvb: ∀B,Blk v B→N0≤B)(hW: ∀B,W B→B<N0)(hl:l.length≤100000000)(hf: ∀e∈l,e.fine)
  (hst: ∀s H H',H.ok→IR s H→Prs H H'→IR s H')
  (call: ∀s e H,H4.next≤H.next→H.ok→IR s H→e∈l→ ∃H',callV (s86 (dy (m+1)) (m+1)).S (dy (m+1)) cv [.agg (sdV d e)] H=some (.bool (step s e).1,H')∧IR (step s e).2 H'∧Stp W H H'):
  ∀(rr i kf:Nat) {H:AH} (s:σ),i+rr=l.length→rr<kf→IR s H→Stp W H4 H→
   ∃H',jb 0 (qV kf (zAF (dy (m+1)) (m+1)) [cv,v, .int .i64 ((l.length:Nat):Int), .int .i64 ((i:Nat):Int)] H) (zI9 (dy (m+1)) (m+1))=some (.ret (.int .i64 ((0:Nat):Int)),H')∧IR (jG step (l.drop i) s).2 H'∧Stp W H4 H'
 | _,_,0,_,_,_,hk,_,_=>by omega
 | 0,i,kf+1,H,s,he,_,hI,P=>by
  have hge: ¬((i:Nat):Int)< ((l.length:Nat):Int):=by omega
  have hnil:l.drop i=[]:=zP (by omega)
  rw[hnil]
  refine⟨H, ?_,hI,P⟩
  rw[yB (i:=0) (vs':=[]) (H':=H) (by simp(maxSteps:=999999)(disch:=omega) only[zAF,eZ,hge])]
  simp(maxSteps:=999999)(disch:=omega) only[jb,Nat.beq_refl,cond_true,zI9,eZ]
 | rr+1,i,kf+1,H,s,he,hkf,hI,P=>by
  have hi:i<l.length:=by omega
  have hil:i< (l.map (wP d)).length:=by simpa using hi
  have hv:zJM H v (l.map (wP d)):=Rw.stp hv4 P fun B hB e=>by
   have:=hvb B hB;have:=hW B e;omega
  obtain⟨A',o,i1,i2,i3,i4⟩:=hv.at hil
  have hg:(l.map (wP d))[i]=wP d l[i]:=by simp
  rw[hg]at i2
  have N:=P.next
  have hfe:=hf _ (zQ hi)
  obtain⟨H5,A8,b5,p5,g5,m5,n5⟩:=box P.ok (.cells [S [],S []] 48 1 false)
  obtain⟨H6,e6,g6,s6,n6⟩:=qW p5.ok g5 (l':=[S (yD d l[i].c),S (xI l[i])]) rfl rfl
  have e6':stN 2 (.ptr A8 0) (.agg [S (yD d l[i].c),S (xI l[i])]) H5=some (qM,H6):=e6
  have P6:Prs H H6:=p5.fresh s6 fun B hB=>by omega
  have N5:=p5.next;have N6:=s6.next
  obtain⟨H7,e7,p7⟩:=zCg (dy (m+1)) (m+1) (by omega) P6.ok (d:=d) hfe
  obtain⟨H8,A9,b8,p8,g8,m8,n8⟩:=box p7.ok (.cells sd0 174 1 false)
  obtain⟨H9,e9,g9,s9,n9⟩:=qW p8.ok g8 (l':=sdV d l[i]) rfl rfl
  have e9':stN 5 (.ptr A9 0) (.agg (sdV d l[i])) H8=some (qM,H9):=e9
  have N7:=p7.next;have N8:=p8.next;have N9:=s9.next
  have P9:Prs H H9:=((P6.trans p7).trans p8).fresh s9 fun B hB=>by omega
  obtain⟨H10,e10,I10,s10⟩:=call s l[i] H9 (by omega) s9.ok (hst _ _ _ P.ok hI P9) (zQ hi)
  have P10:Stp W H4 H10:=P.trans ((Prs.stp P9).trans s10) |>.mono fun _ _ x=>x
  have hL:l.drop i=l[i]::l.drop (i+1):=zL hi
  have hiI:((i:Nat):Int)< ((l.length:Nat):Int):=by omega
  have hi1:((i:Nat):Int)+((1:Nat):Int)=((i+1:Nat):Int):=by omega
  have hS:(AV.str 0 0)=S []:=rfl
  have hbx:bxV 48 (.agg [S [],S []])=some (.cells [S [],S []] 48 1 false,fun A=> .ptr A 0):=rfl
  have hbs:bxV 174 (.agg [S [], .int .i64 ((0:Nat):Int), .int .i64 ((0:Nat):Int),S [], .bool false])=some (.cells sd0 174 1 false,fun A=> .ptr A 0):=rfl
  have i2':ldN 2 (.ptr A' o) H=some (.agg [S (yD d l[i].c),S (xI l[i])]):=i2
  have r6:ldN 2 (.ptr A8 0) H6=some (.agg [S (yD d l[i].c),S (xI l[i])]):=by rw[qQ g6];rfl
  have r9:ldN 5 (.ptr A9 0) H9=some (.agg (sdV d l[i])):=zJK g9 rfl
  rw[hL]
  cases hc:(step s l[i]).1 with
  | true=>
   rw[hc]at e10
   have body:zAF (dy (m+1)) (m+1) [cv,v, .int .i64 ((l.length:Nat):Int), .int .i64 ((i:Nat):Int)] H=some (.norm [cv,v, .int .i64 ((l.length:Nat):Int), .int .i64 ((i+1:Nat):Int)],H10):=by
    simp(maxSteps:=999999)(disch:=omega) only[zAF,eZ,hiI,i1,i2',hS,hbx,b5,e6',r6,e7,qK,nth,hbs,b8,e9',r9,e10,hi1]
   obtain⟨H11,e11,I11,P11⟩:=K9 m hm hk4 hv4 hvb hW hl hf hst call rr (i+1) kf (step s l[i]).2 (by omega) (by omega) I10 P10
   refine⟨H11, ?_, ?_,P11⟩
   ·rw[wL body,e11]
   ·simp only[jG,hc,cond_true];exact I11
  | false=>
   rw[hc]at e10
   have body:zAF (dy (m+1)) (m+1) [cv,v, .int .i64 ((l.length:Nat):Int), .int .i64 ((i:Nat):Int)] H=some (.exit 0 [],H10):=by
    simp(maxSteps:=999999)(disch:=omega) only[zAF,eZ,hiI,i1,i2',hS,hbx,b5,e6',r6,e7,qK,nth,hbs,b8,e9',r9,e10]
   refine⟨H10, ?_, ?_,P10⟩
   ·rw[yB body]
    simp(maxSteps:=999999)(disch:=omega) only[jb,Nat.beq_refl,cond_true,zI9,eZ]
   ·simp only[jG,hc,cond_false];exact I10
theorem c256 (h:Nat):((h:Nat):Int)*((256:Nat):Int)=((h*256:Nat):Int)∧((h*256:Nat):Int)+((1:Nat):Int)=((h*256+1:Nat):Int)∧((h*256+1:Nat):Int)+((256:Nat):Int)=((h*256+257:Nat):Int):=by omega
theorem zCo (m:Nat)(hm:700000000≤m){H:AH}{At M L d h:Nat}{kv:Kvs}(t:jE H At M L kv)(hL:L≤1000000)(hkv:kv.length≤100000000)(f:gJ d kv)(hd:d<2147483648)(hh:h<1024)
  {cv:AV} {σ:Type} {step:σ→En→Bool×σ} {IR:σ→AH→Prop} {W:Nat→Prop} (hW: ∀B,W B→B<H.next)
  (hst: ∀s H H',H.ok→IR s H→Prs H H'→IR s H')
  (call: ∀s e H',H.next≤H'.next→H'.ok→IR s H'→e∈chE d h kv→ ∃H'',callV (s86 (dy (m+1)) (m+1)).S (dy (m+1)) cv [.agg (sdV d e)] H'=some (.bool (step s e).1,H'')∧IR (step s e).2 H''∧Stp W H' H'')
  (s:σ) (hI:IR s H):
  ∃H',f86 (dy (m+1)) (m+1) [.ptr At 0, .int .i64 ((d:Nat):Int), .int .i64 ((h:Nat):Int),cv] H=some (.int .i64 ((0:Nat):Int),H')∧IR (jG step (chE d h kv) s).2 H'∧Stp W H H':=by
 have hk:H.ok:=by obtain⟨_,_,_,_,_,_,_,_,_,ti,_⟩:=t;exact ti.ok
 obtain⟨c1,c2,c3⟩:=f.chain hd hh
 obtain⟨H1,e1,p1⟩:=XF (dy (m+1)) (m+1) (by omega) hk (d:=d) (c:=h*256+1) (by omega) (by omega)
 obtain⟨H2,e2,p2⟩:=XF (dy (m+1)) (m+1) (by omega) p1.ok (d:=d) (c:=h*256+257) (by omega) (by omega)
 have P2:=p1.trans p2
 have hlen:(jC (yD d (h*256+1)) (yD d (h*256+257)) kv).length≤2147483647:=by have:=List.length_filter_le (inP (yD d (h*256+1)) (yD d (h*256+257))) kv;rw[jC];omega
 obtain⟨H3,v,e3,p3,gv,fv⟩:=zEs m hm (t.prs P2) hL (by omega) (yD d (h*256+1)) (yD d (h*256+257)) (most:=2147483647) (by omega) hlen
 have hb:jC (yD d (h*256+1)) (yD d (h*256+257)) kv=(chE d h kv).map (wP d):=c1
 have hcl:(chE d h kv).length≤100000000:=by
  have:=List.length_filter_le (inP (yD d (h*256+1)) (yD d (h*256+257))) kv
  rw[c1,zY]at this;omega
 rw[hb]at gv
 have hv:zJM H3 v ((chE d h kv).map (wP d)):=gv.row
 have P3:=P2.trans p3
 have N2:=P2.next;have N3:=P3.next
 obtain⟨H4,e4,I4,s4⟩:=K9 m (by omega) p3.ok hv (N0:=H.next) (fun B hB=>by have:=fv B hB;omega) hW hcl (fun e he=>(c2 e he).1) hst (fun s e H' hn hk' hI' he=>call s e H' (by omega) hk' hI' he) (chE d h kv).length 0 (m+1) s (by omega) (by omega) (hst _ _ _ hk hI P3) (Stp.refl p3.ok)
 rw[List.drop_zero]at I4
 refine⟨H4, ?_,I4,(Prs.stp P3).trans s4⟩
 obtain⟨hm1,ha1,ha2⟩:=c256 h
 have t00: ¬(((0:Nat):Int)≠((0:Nat):Int)):=by omega
 have hln:lnSl v=some (.int .i64 (((chE d h kv).length:Nat):Int)):=by rw[hv.lnSl,zY]
 simp(maxSteps:=999999)(disch:=omega) only[f86,eZ,hm1,ha1,e1,ha2,e2,e3,qK,nth,t00,hln,e4]
def zBT (d:Nat):Option En→List AV
 | some e=>sdV d e
 | none=>sd0
def Q6 (nm:Str)(s:Option En)(e:En):Bool×Option En:=bif decide (e.n=nm)then(false,some e)else(!s.isSome,s)
theorem zBq (nm:Str): ∀l:List En,(jG (Q6 nm) l none).2=l.find? fun e=>decide (e.n=nm)
 | []=>rfl
 | e::l=>by
  by_cases h:e.n=nm
  ·rw[List.find?_cons_of_pos (by simp[h])]
   simp only[jG,Q6,h,decide_true,cond_true,cond_false]
  ·rw[List.find?_cons_of_neg (by simp[h]), ← zBq nm l]
   simp only[jG,Q6,h,decide_false,cond_false,cond_true,Option.isSome_none,Bool.not_false]
set_option maxRecDepth 20000 in
theorem zDe (m n:Nat)(a b:Nat)(x:AV)(H:AH):callV (s86 (dy (m+1)) n).S (dy (m+1)) (.func 130 [] [.ptr a 0, .ptr b 0]) [x] H=f130 (dy m) m [x, .ptr a 0, .ptr b 0] H:=rfl
theorem zHt (D:Dyn)(n:Nat){H:AH}(hk:H.ok){d X5 X8:Nat}{nm:Str}{e:En}{s:Option En}(b5:Box H X5 (S nm))(g8:H.h.get X8=some (.cells (zBT d s) 174 1 false))(h58:X5≠X8):
  ∃H',f130 D n [.agg (sdV d e), .ptr X5 0, .ptr X8 0] H=some (.bool (Q6 nm s e).1,H')∧(Box H' X5 (S nm)∧H'.h.get X8=some (.cells (zBT d (Q6 nm s e).2) 174 1 false))∧Stp (fun B=>B=X8) H H':=by
 obtain⟨H1,A3,b1,p1,g1,m1,n1⟩:=box hk (.cells (sdV d e) 174 1 false)
 have N1:=p1.next
 have l8:=hk.lt g8
 have l5:=b5.lt hk
 have b51:=b5.mono hk p1 fun x=>x
 have g81:=Prs.get p1 hk g8
 have hbx:bxV 174 (.agg (sdV d e))=some (.cells (sdV d e) 174 1 false,fun A=> .ptr A 0):=rfl
 have r4:ld1 (.ptr A3 4) H1=some (.bool true):=by rw[qL g1];rfl
 have r0:ld1 (.ptr A3 0) H1=some (S e.n):=by rw[qL g1];rfl
 have q4: ∀ {H':AH} {l:List AV},H'.h.get X8=some (.cells l 174 1 false)→ld1 (.ptr X8 4) H'=l[4]? :=fun g=>by rw[qL g]
 by_cases h:e.n=nm
 ·have hst:Q6 nm s e=(false,some e):=by simp only[Q6,h,decide_true,cond_true]
  have hlen:(zBT d s).length=5:=by cases s<;>rfl
  obtain⟨H2,e2,g2,s2,n2⟩:=qW p1.ok g81 (l':=sdV d e) (hlen.symm) rfl
  rw[hlen]at e2
  have e2':stN 5 (.ptr X8 0) (.agg (sdV d e)) H1=some (qM,H2):=e2
  have r5:ldN 5 (.ptr A3 0) H1=some (.agg (sdV d e)):=zJK g1 rfl
  have r8:ld1 (.ptr X8 4) H2=some (.bool true):=by rw[q4 g2];rfl
  rw[hst]
  refine⟨H2, ?_,⟨b51.mono p1.ok s2 h58,g2⟩,(Prs.stp p1).trans s2⟩
  simp(maxSteps:=999999)(disch:=omega) only[f130,zFT,eZ,hbx,b1,r4,r0,b51.ld,jJ,h,r5,e2',r8]
 ·have hst:Q6 nm s e=(!s.isSome,s):=by simp only[Q6,h,decide_false,cond_false]
  have r8:ld1 (.ptr X8 4) H1=some (.bool s.isSome):=by rw[q4 g81];cases s<;>rfl
  rw[hst]
  refine⟨H1, ?_,⟨b51,g81⟩,Prs.stp p1⟩
  simp(maxSteps:=999999)(disch:=omega) only[f130,zFT,eZ,hbx,b1,r4,r0,b51.ld,jJ,h,r8]
def dJ (d:Nat)(nm:Str)(kv:Kvs):List AV:=bif uE nm then(match xR d nm kv with
 | some e=>[.agg (sdV d e), .int .i64 ((0:Nat):Int)]
 | none=>[.agg sd0, .int .i64 ((5:Nat):Int)])else[.agg sd0, .int .i64 ((56:Nat):Int)]
theorem zCf (m:Nat)(hm:700000000≤m){H:AH}{At M L d:Nat}{kv:Kvs}{nm:Str}(t:jE H At M L kv)(hL:L≤1000000)(hkv:kv.length≤100000000)(f:gJ d kv)(hd:1≤d)(hd2:d≤2147483647)(hnm:nm.length<4294967281):
  ∃H',f93 (dy (m+1)) (m+1) [.ptr At 0, .int .i64 ((d:Nat):Int),S nm] H=some (.tuple (dJ d nm kv),H')∧Prs H H':=by
 have hk:H.ok:=by obtain⟨_,_,_,_,_,_,_,_,_,ti,_⟩:=t;exact ti.ok
 obtain⟨H1,X5,b1,p1,g1,m1,n1⟩:=box hk (.cells [S nm] 9 1 false)
 obtain⟨H2,X6,b2,p2,g2,m2,n2⟩:=box p1.ok (.cells sd0 174 1 false)
 have N1:=p1.next;have N2:=p2.next
 have P2:=p1.trans p2
 have hbS:qT (S nm)=[S nm]:=rfl
 have hS:(AV.str 0 0)=S []:=rfl
 have hbs:bxV 174 (.agg [S [], .int .i64 ((0:Nat):Int), .int .i64 ((0:Nat):Int),S [], .bool false])=some (.cells sd0 174 1 false,fun A=> .ptr A 0):=rfl
 have bs:jX [(0,3),(3,1),(4,1)] [S [], .int .i64 ((0:Nat):Int), .int .i64 ((0:Nat):Int),S [], .bool false] []=some (.agg sd0):=rfl
 have x5:Box H2 X5 (S nm):=⟨_,Prs.get p2 p1.ok g1⟩
 have i1: ∀H,f84 (dy (m+1)) (m+1) [.int .i64 ((d:Nat):Int)] H=some (.bool true,H):=fun H=>by
  rw[wC,decide_eq_true (by omega),decide_eq_true (by omega)];rfl
 have y1: ∀H,f85 (dy (m+1)) (m+1) [S nm] H=some (.bool (uE nm),H):=fun H=>zAV _ _ _ hnm
 cases hy:uE nm with
 | false=>
  obtain⟨H3,e3,g3,s3,n3⟩:=qW p2.ok g2 (l':=sd0) rfl rfl
  have e3':stN 5 (.ptr X6 0) (.agg sd0) H2=some (qM,H3):=e3
  have r3:ldN 5 (.ptr X6 0) H3=some (.agg sd0):=zJK g3 rfl
  refine⟨H3, ?_,P2.fresh s3 fun B hB=>by omega⟩
  rw[hy]at y1
  simp(maxSteps:=999999)(disch:=omega) only[f93,eZ,cq,hbS,b1,hS,hbs,b2,i1,x5.ld,y1,bs,e3',r3,dJ,hy,cond_false]
 | true=>
  rw[hy]at y1
  have hl:=WJ hy
  obtain⟨H3,X8,b3,p3,g3,m3,n3⟩:=box p2.ok (.cells sd0 174 1 false)
  have N3:=p3.next
  have P3:=P2.trans p3
  have x53:Box H3 X5 (S nm):=x5.mono p2.ok p3 fun x=>x
  obtain⟨H4,e4,⟨x54,g84⟩,s4⟩:=zCo m hm (t.prs P3) hL hkv f (d:=d) (h:=yZ nm) (by omega) (bE nm) (cv:= .func 130 [] [.ptr X5 0, .ptr X8 0]) (step:=Q6 nm)
   (IR:=fun s H=>Box H X5 (S nm)∧H.h.get X8=some (.cells (zBT d s) 174 1 false)) (W:=fun B=>B=X8) (fun B hB=>by omega) (fun s H H' hk hI P=>⟨hI.1.mono hk P fun x=>x,Prs.get P hk hI.2⟩)
   (fun s e H' hn hk' hI he=>by
    rw[zDe]
    exact zHt (dy m) m hk' hI.1 hI.2 (by omega)) none ⟨x53,g3⟩
  have hrun:(jG (Q6 nm) (chE d (yZ nm) kv) none).2=xR d nm kv:=zBq nm _
  rw[hrun]at g84
  have N4:=s4.next
  have h1: ∀H,f83 (dy (m+1)) (m+1) [S nm] H=some (.int .i64 ((yZ nm:Nat):Int),H):=fun H=>XG _ _ _ (by omega) (by omega)
  have g64:H4.h.get X6=some (.cells sd0 174 1 false):=by rw[s4.keep _ (by omega) (by omega)];exact Prs.get p3 p2.ok g2
  have P4:Prs H H4:=P3.fresh s4 fun B hB=>by omega
  have t00: ¬(((0:Nat):Int)≠((0:Nat):Int)):=by omega
  cases ho:xR d nm kv with
  | none=>
   rw[ho]at g84
   obtain⟨H5,e5,g5,s5,n5⟩:=qW s4.ok g64 (l':=sd0) rfl rfl
   have e5':stN 5 (.ptr X6 0) (.agg sd0) H4=some (qM,H5):=e5
   have r5:ldN 5 (.ptr X6 0) H5=some (.agg sd0):=zJK g5 rfl
   have r84:ld1 (.ptr X8 4) H4=some (.bool false):=by rw[qL g84];rfl
   refine⟨H5, ?_,P4.fresh s5 fun B hB=>by omega⟩
   simp(maxSteps:=999999)(disch:=omega) only[f93,eZ,cq,hbS,b1,hS,hbs,b2,i1,x5.ld,y1,b3,x53.ld,h1,e4,t00,r84,bs,e5',r5,dJ,hy,ho,cond_true]
  | some e=>
   rw[ho]at g84
   obtain⟨H5,e5,g5,s5,n5⟩:=qW s4.ok g64 (l':=sdV d e) rfl rfl
   have e5':stN 5 (.ptr X6 0) (.agg (sdV d e)) H4=some (qM,H5):=e5
   have r5:ldN 5 (.ptr X6 0) H5=some (.agg (sdV d e)):=zJK g5 rfl
   have r84:ld1 (.ptr X8 4) H4=some (.bool true):=by rw[qL g84];rfl
   have r8:ldN 5 (.ptr X8 0) H4=some (.agg (sdV d e)):=zJK g84 rfl
   refine⟨H5, ?_,P4.fresh s5 fun B hB=>by omega⟩
   simp(maxSteps:=999999)(disch:=omega) only[f93,eZ,cq,hbS,b1,hS,hbs,b2,i1,x5.ld,y1,b3,x53.ld,h1,e4,t00,r84,r8,e5',r5,dJ,hy,ho,cond_true]
def aK (d:Nat)(nm:Str)(kv:Kvs):List AV:=bif uE nm then(match xR d nm kv with
 | some e=>[.int .i64 ((e.i:Nat):Int), .int .i64 ((e.c:Nat):Int), .int .i64 ((0:Nat):Int)]
 | none=>[.int .i64 ((0:Nat):Int), .int .i64 ((0:Nat):Int), .int .i64 ((5:Nat):Int)])else[.int .i64 ((0:Nat):Int), .int .i64 ((0:Nat):Int), .int .i64 ((56:Nat):Int)]
theorem zAW (d:Nat)(nm:Str)(kv:Kvs):(∃e,uE nm=true∧xR d nm kv=some e∧dJ d nm kv=[.agg (sdV d e), .int .i64 ((0:Nat):Int)]∧aK d nm kv=[.int .i64 ((e.i:Nat):Int), .int .i64 ((e.c:Nat):Int), .int .i64 ((0:Nat):Int)])∨(∃x:Nat,x≠0∧x≤1000∧dJ d nm kv=[.agg sd0, .int .i64 ((x:Nat):Int)]∧aK d nm kv=[.int .i64 ((0:Nat):Int), .int .i64 ((0:Nat):Int), .int .i64 ((x:Nat):Int)]):=by
 cases hy:uE nm with
 | false=>exact .inr ⟨56,by omega,by omega,by simp only[dJ,hy,cond_false],by simp only[aK,hy,cond_false]⟩
 | true=>cases ho:xR d nm kv with
  | none=>exact .inr ⟨5,by omega,by omega,by simp only[dJ,hy,cond_true,ho],by simp only[aK,hy,cond_true,ho]⟩
  | some e=>exact .inl ⟨e,rfl,rfl,by simp only[dJ,hy,cond_true,ho],by simp only[aK,hy,cond_true,ho]⟩
theorem zCh (m:Nat)(hm:700000000≤m){H:AH}{At M L d:Nat}{kv:Kvs}{nm:Str}(t:jE H At M L kv)(hL:L≤1000000)(hkv:kv.length≤100000000)(f:gJ d kv)(hd:1≤d)(hd2:d≤2147483647)(hnm:nm.length<4294967281):
  ∃H',f46 (dy (m+1)) (m+1) [.ptr At 0, .int .i64 ((d:Nat):Int),S nm] H=some (.tuple (aK d nm kv),H')∧Prs H H':=by
 obtain⟨H1,e1,p1⟩:=zCf m hm t hL hkv f hd hd2 hnm
 obtain⟨H2,A9,b2,p2,g2,m2,n2⟩:=box p1.ok (.cells sd0 174 1 false)
 have N1:=p1.next
 have hS:(AV.str 0 0)=S []:=rfl
 have hbs:bxV 174 (.agg [S [], .int .i64 ((0:Nat):Int), .int .i64 ((0:Nat):Int),S [], .bool false])=some (.cells sd0 174 1 false,fun A=> .ptr A 0):=rfl
 rcases zAW d nm kv with⟨e,_,_,h1,h2⟩ | ⟨x,_,_,h1,h2⟩
 ·rw[h1]at e1
  rw[h2]
  obtain⟨H3,e3,g3,s3,n3⟩:=qW p2.ok g2 (l':=sdV d e) rfl rfl
  have e3':stN 5 (.ptr A9 0) (.agg (sdV d e)) H2=some (qM,H3):=e3
  have r1:ld1 (.ptr A9 1) H3=some (.int .i64 ((e.i:Nat):Int)):=by rw[qL g3];rfl
  have r2:ld1 (.ptr A9 2) H3=some (.int .i64 ((e.c:Nat):Int)):=by rw[qL g3];rfl
  refine⟨H3, ?_,(p1.trans p2).fresh s3 fun B hB=>by omega⟩
  simp(maxSteps:=999999)(disch:=omega) only[f46,eZ,e1,qK,nth,hS,hbs,b2,e3',r1,r2]
 ·rw[h1]at e1
  rw[h2]
  obtain⟨H3,e3,g3,s3,n3⟩:=qW p2.ok g2 (l':=sd0) rfl rfl
  have e3':stN 5 (.ptr A9 0) (.agg sd0) H2=some (qM,H3):=e3
  have r1:ld1 (.ptr A9 1) H3=some (.int .i64 ((0:Nat):Int)):=by rw[qL g3];rfl
  have r2:ld1 (.ptr A9 2) H3=some (.int .i64 ((0:Nat):Int)):=by rw[qL g3];rfl
  refine⟨H3, ?_,(p1.trans p2).fresh s3 fun B hB=>by omega⟩
  simp(maxSteps:=999999)(disch:=omega) only[f46,eZ,e1,qK,nth,hS,hbs,b2,e3',r1,r2]
def bD (d:Nat)(nm:Str)(kv:Kvs):Option En:=bif uE nm then xR d nm kv else none
def Y9 (d:Nat)(nm:Str)(kv:Kvs):Kvs:=match bD d nm kv with
 | some e=>Nd.delP (yD d e.c) kv
 | none=>kv
def zAU (d:Nat)(nm:Str)(kv:Kvs):List AV:=match bD d nm kv with
 | some e=>[.int .i64 ((e.i:Nat):Int), .int .i64 ((0:Nat):Int)]
 | none=>[.int .i64 ((0:Nat):Int), .int .i64 ((bif uE nm then 5 else 56:Nat):Int)]
theorem zD2 (d:Nat)(nm:Str)(kv:Kvs):(∃e,uE nm=true∧xR d nm kv=some e∧bD d nm kv=some e∧dJ d nm kv=[.agg (sdV d e), .int .i64 ((0:Nat):Int)])∨(∃x:Nat,x≠0∧x=(bif uE nm then 5 else 56)∧bD d nm kv=none∧dJ d nm kv=[.agg sd0, .int .i64 ((x:Nat):Int)]):=by
 cases hy:uE nm with
 | false=>exact .inr ⟨56,by omega,rfl,by simp only[bD,hy,cond_false],by simp only[dJ,hy,cond_false]⟩
 | true=>cases ho:xR d nm kv with
  | none=>exact .inr ⟨5,by omega,rfl,by simp only[bD,hy,cond_true,ho],by simp only[dJ,hy,cond_true,ho]⟩
  | some e=>exact .inl ⟨e,rfl,rfl,by simp only[bD,hy,cond_true,ho],by simp only[dJ,hy,cond_true,ho]⟩
theorem zIp (m:Nat)(hm:700000000≤m){H:AH}{At M L d:Nat}{kv:Kvs}{nm:Str}(t:jE H At M L kv)(hL:L≤1000000)(hkv:kv.length≤100000000)(f:gJ d kv)(hd:1≤d)(hd2:d≤2147483647)(hnm:nm.length<4294967281):
  ∃H',f47 (dy (m+1)) (m+1) [.ptr At 0, .int .i64 ((d:Nat):Int),S nm] H=some (.tuple (zAU d nm kv),H')∧jE H' At M (L+200) (Y9 d nm kv)∧Stp (fun B=>B=At∨B=M) H H':=by
 obtain⟨H1,e1,p1⟩:=zCf m hm t hL hkv f hd hd2 hnm
 obtain⟨H2,A8,b2,p2,g2,m2,n2⟩:=box p1.ok (.cells sd0 174 1 false)
 have N1:=p1.next
 have hS:(AV.str 0 0)=S []:=rfl
 have hbs:bxV 174 (.agg [S [], .int .i64 ((0:Nat):Int), .int .i64 ((0:Nat):Int),S [], .bool false])=some (.cells sd0 174 1 false,fun A=> .ptr A 0):=rfl
 have t00: ¬(((0:Nat):Int)≠((0:Nat):Int)):=by omega
 rcases zD2 d nm kv with⟨e,hy,ho,h1,h2⟩ | ⟨x,hx,hx2,h1,h2⟩
 ·rw[h2]at e1
  obtain⟨f1,f2,f3⟩:=f.found (by omega) ho
  obtain⟨H3,e3,g3,s3,n3⟩:=qW p2.ok g2 (l':=sdV d e) rfl rfl
  have e3':stN 5 (.ptr A8 0) (.agg (sdV d e)) H2=some (qM,H3):=e3
  have P3:Prs H H3:=(p1.trans p2).fresh s3 fun B hB=>by omega
  have r3:ld1 (.ptr A8 3) H3=some (S (yD d e.c)):=by rw[qL g3];rfl
  have hz:YX (yD d e.c) kv=0:=by
   have h1:Nd.mayK (yD d e.c)=true:=by simp[Nd.mayK,wI]
   have h2:=(ZL f.1).2 f2
   simp only[YX,h1,h2,if_true,qH]
  obtain⟨m',rfl⟩: ∃m',m=m'+1:=⟨m - 1,by omega⟩
  obtain⟨H4,e4,t4,s4⟩:=zL9 m' (m'+1+1) (by omega) (by omega) (t.prs P3) (by omega) (by omega) (k:=yD d e.c)
  rw[hz]at e4
  rw[if_pos hz]at t4
  have N3:=P3.next
  have lt:=t.lt
  have g4:H4.h.get A8=some (.cells (sdV d e) 174 1 false):=by rw[s4.keep _ (s3.ok.lt g3) (by omega)];exact g3
  have r4:ld1 (.ptr A8 1) H4=some (.int .i64 ((e.i:Nat):Int)):=by rw[qL g4];rfl
  refine⟨H4, ?_,by rw[Y9,h1];exact t4,(Prs.stp P3).trans s4⟩
  simp(maxSteps:=999999)(disch:=omega) only[f47,eZ,e1,qK,nth,hS,hbs,b2,e3',t00,r3,e4,r4,zAU,h1]
 ·rw[h2]at e1
  obtain⟨H3,e3,g3,s3,n3⟩:=qW p2.ok g2 (l':=sd0) rfl rfl
  have e3':stN 5 (.ptr A8 0) (.agg sd0) H2=some (qM,H3):=e3
  have P3:Prs H H3:=(p1.trans p2).fresh s3 fun B hB=>by omega
  refine⟨H3, ?_,by rw[Y9,h1];exact(t.prs P3).up (by omega),Prs.stp P3⟩
  have tx:((x:Nat):Int)≠((0:Nat):Int):=by omega
  simp(maxSteps:=999999)(disch:=omega) only[f47,eZ,e1,qK,nth,hS,hbs,b2,e3',tx,ne_eq,not_false_eq_true,zAU,h1, ← hx2]
def xK (l:List En):List AV:=(List.range 256).map fun p=> .bool (aW l p)
theorem zCK (l:List En):(xK l).length=256:=by simp[xK]
theorem J5 (l:List En){p:Nat}(h:p<256):(xK l)[p]? =some (.bool (aW l p)):=by simp[xK,h]
theorem zCI (l:List En)(e:En):(xK l).set ((e.c - 1) % 256) (.bool true)=xK (l++[e]):=by
 apply List.ext_getElem
 ·simp[xK]
 ·intro j h1 h2
  simp only[xK,List.getElem_set,List.getElem_map,List.getElem_range,aW,List.any_append,List.any_cons,List.any_nil,Bool.or_false]
  by_cases h:(e.c - 1) % 256=j
  ·rw[if_pos h,beq_iff_eq.2 h,Bool.or_true]
  ·rw[if_neg h,beq_eq_false_iff_ne.2 h,Bool.or_false]
def YI (nm:Str)(l:List En):Bool:=l.any fun e=>decide (e.n=nm)
theorem vQ (nm:Str)(l:List En)(e:En):YI nm (l++[e])=(YI nm l||decide (e.n=nm)):=by simp[YI]
def cV (nm:Str)(l:List En)(e:En):Bool×List En:=(!YI nm (l++[e]),l++[e])
theorem zEf (nm:Str): ∀(es l:List En),YI nm l=false→YI nm (jG (cV nm) es l).2=YI nm es∧(YI nm es=false→(jG (cV nm) es l).2=l++es)
 | [],l,h=>⟨h,fun _=>(List.append_nil l).symm⟩
 | e::es,l,h=>by
  by_cases hn:e.n=nm
  ·have h1:YI nm (l++[e])=true:=by rw[vQ,h,decide_eq_true hn];rfl
   have h2:YI nm (e::es)=true:=by simp[YI,hn]
   simp only[jG,cV,h1,Bool.not_true,cond_false]
   exact⟨h2.symm,fun h=>by rw[h2]at h;cases h⟩
  ·have h1:YI nm (l++[e])=false:=by rw[vQ,h,decide_eq_false hn];rfl
   have h2:YI nm (e::es)=YI nm es:=by simp[YI,hn]
   simp only[jG,cV,h1,Bool.not_false,cond_true]
   rw[h2]
   obtain⟨g1,g2⟩:=zEf nm es (l++[e]) h1
   exact⟨g1,fun h=>by rw[g2 h,List.append_assoc];rfl⟩
theorem zIN (nm:Str)(l:List En):YI nm l=(l.find? fun e=>decide (e.n=nm)).isSome:=by
 rw[Bool.eq_iff_iff,List.find?_isSome,YI,List.any_eq_true]
set_option maxRecDepth 20000 in
theorem zGD (m n:Nat)(a b c:Nat)(x:AV)(H:AH):callV (s86 (dy (m+1)) n).S (dy (m+1)) (.func 87 [] [.ptr a 0, .ptr b 0, .ptr c 0]) [x] H=f87 (dy m) m [x, .ptr a 0, .ptr b 0, .ptr c 0] H:=rfl
def AI (X10 X11 X6:Nat)(nm:Str)(l:List En)(H:AH):Prop:=H.h.get X10=some (.cells (xK l) 171 1 false)∧Box H X11 (.bool (YI nm l))∧Box H X6 (S nm)
theorem zLm (D:Dyn)(n:Nat){H:AH}(hk:H.ok){d X10 X11 X6:Nat}{nm:Str}{e:En}{l:List En}(hI:AI X10 X11 X6 nm l H)(hne:X6<X10∧X10<X11)(hf:e.fine):
  ∃H',f87 D n [.agg (sdV d e), .ptr X10 0, .ptr X11 0, .ptr X6 0] H=some (.bool (cV nm l e).1,H')∧AI X10 X11 X6 nm (cV nm l e).2 H'∧Stp (fun B=>B=X10∨B=X11) H H':=by
 obtain⟨g10,b11,b6⟩:=hI
 obtain⟨f1,f2,_⟩:=hf
 obtain⟨H1,A4,b1,p1,g1,m1,n1⟩:=box hk (.cells (sdV d e) 174 1 false)
 have N1:=p1.next
 have l10:=hk.lt g10
 have l11:=b11.lt hk
 have l6:=b6.lt hk
 have hp:(e.c - 1) % 256<256:=Nat.mod_lt _ (by omega)
 obtain⟨H2,e2,g2,s2⟩:=zJ8 p1.ok (Prs.get p1 hk g10) (o:=(e.c - 1) % 256) (x:= .bool true) rfl (by rw[zCK];omega)
 rw[zCI]at g2
 have N2:=s2.next
 have g12:H2.h.get A4=some (.cells (sdV d e) 174 1 false):=by rw[s2.keep _ n1 (by omega)];exact g1
 have b112:Box H2 X11 (.bool (YI nm l)):=(b11.mono hk p1 fun x=>x).mono p1.ok s2 (by omega)
 have b62:Box H2 X6 (S nm):=(b6.mono hk p1 fun x=>x).mono p1.ok s2 (by omega)
 obtain⟨H3,e3,b113,s3⟩:=b112.st s2.ok (x:= .bool (YI nm (l++[e]))) rfl
 have g103:H3.h.get X10=some (.cells (xK (l++[e])) 171 1 false):=by rw[s3.keep _ (by omega) (by omega)];exact g2
 have b63:Box H3 X6 (S nm):=b62.mono s2.ok s3 (by omega)
 have hbx:bxV 174 (.agg (sdV d e))=some (.cells (sdV d e) 174 1 false,fun A=> .ptr A 0):=rfl
 have r2:ld1 (.ptr A4 2) H1=some (.int .i64 ((e.c:Nat):Int)):=by rw[qL g1];rfl
 have r4:ld1 (.ptr A4 4) H2=some (.bool true):=by rw[qL g12];rfl
 have r0:ld1 (.ptr A4 0) H2=some (S e.n):=by rw[qL g12];rfl
 have hsub:((e.c:Nat):Int) - ((1:Nat):Int)=((e.c - 1:Nat):Int):=by omega
 have hrem:=zM9 (c:=e.c - 1) (by omega)
 have hix:QW 256 1 (.ptr X10 0) (.int .i64 (((e.c - 1) % 256:Nat):Int))=some (.ptr X10 ((e.c - 1) % 256)):=by rw[dU 256 X10 0 .i64 _ rfl hp,Nat.zero_add]
 refine⟨H3, ?_,⟨g103,b113,b63⟩,((Prs.stp p1).trans (s2.mono fun _ _ x=> .inl x)).trans (s3.mono fun _ _ x=> .inr x)⟩
 rw[vQ]at e3 b113
 cases ha:YI nm l with
 | true=>
  rw[ha,Bool.true_or]at e3
  have hst:(cV nm l e).1=false:=by simp only[cV,vQ,ha,Bool.true_or,Bool.not_true]
  rw[ha]at b112
  rw[ha,Bool.true_or]at b113
  simp(maxSteps:=999999)(disch:=omega) only[f87,eZ,hbx,b1,r2,hsub,hrem,hix,e2,b112.ld,e3,b113.ld,hst]
 | false=>
  rw[ha,Bool.false_or]at e3 b113
  rw[ha]at b112
  by_cases hn:e.n=nm
  ·have hst:(cV nm l e).1=false:=by simp only[cV,vQ,ha,hn,decide_true,Bool.or_true,Bool.not_true]
   rw[decide_eq_true hn]at e3 b113
   simp(maxSteps:=999999)(disch:=omega) only[f87,eZ,hbx,b1,r2,hsub,hrem,hix,e2,b112.ld,r4,r0,b62.ld,jJ,hn,e3,b113.ld,hst]
  ·have hst:(cV nm l e).1=true:=by simp only[cV,vQ,ha,hn,decide_false,Bool.or_false,Bool.not_false]
   rw[decide_eq_false hn]at e3 b113
   simp(maxSteps:=999999)(disch:=omega) only[f87,eZ,hbx,b1,r2,hsub,hrem,hix,e2,b112.ld,r4,r0,b62.ld,jJ,hn,e3,b113.ld,hst]
def xW (d:Nat)(nm:Str)(ino:Int)(kv:Kvs):Nat×Nat×Kvs:=
 if 1≤ino∧ino≤2147483647 then
  if uE nm=true then
   if(xR d nm kv).isSome=true then(0,6,kv)else
    match dK (chE d (yZ nm) kv)with
    | none=>(0,3,kv)
    | some p=>(yZ nm*256+p+1,0,Nd.putP (yD d (yZ nm*256+p+1)) (xI ⟨yZ nm*256+p+1,ino.toNat,nm⟩) kv)
  else(0,56,kv)
 else(0,1,kv)
def jN (l:List En):Nat:=(dK l).getD 256
theorem QI (l:List En):jN l≤256∧(∀q,q<jN l→aW l q=true)∧(jN l<256→aW l (jN l)=false∧dK l=some (jN l))∧(jN l=256→dK l=none):=by
 cases h:dK l with
 | none=>
  have e:jN l=256:=by rw[jN,h];rfl
  rw[e]
  refine⟨Nat.le_refl _,fun q hq=> ?_,fun h=>absurd h (by omega),fun _=>rfl⟩
  have:=List.find?_eq_none.1 h q (List.mem_range.2 hq)
  simpa using this
 | some p=>
  have e:jN l=p:=by rw[jN,h];rfl
  rw[e]
  obtain⟨h1,h2,h3⟩:=List.find?_range_eq_some.1 h
  have hp:=List.mem_range.1 h2
  refine⟨by omega,fun q hq=> ?_,fun _=>⟨by simpa using h1,rfl⟩,fun h=>by omega⟩
  have:=h3 q hq
  simpa using this
theorem zCV (D:Dyn)(n:Nat)(hn:300≤n){H:AH}{X10:Nat}{l:List En}{a0 a1 a3 a6 hh:AV}(g:H.h.get X10=some (.cells (xK l) 171 1 false)):
  qV n (zFA D n) [a0,a1,a3,a6, .ptr X10 0,hh, .int .i64 ((0:Nat):Int)] H=some (.exit 0 [a0,a1,a3,a6,hh, .int .i64 ((jN l:Nat):Int)],H):=by
 obtain⟨p1,p2,p3,p4⟩:=QI l
 refine wX (fun i=>[a0,a1,a3,a6, .ptr X10 0,hh, .int .i64 ((i:Nat):Int)]) (jN l) (fun i hi=> ?_) (fun k=> ?_) n (by omega)
 ·have hiI:((i:Nat):Int)< ((256:Nat):Int):=by omega
  have hix:QW 256 1 (.ptr X10 0) (.int .i64 ((i:Nat):Int))=some (.ptr X10 i):=by rw[dU 256 X10 0 .i64 i rfl (by omega),Nat.zero_add]
  have r:ld1 (.ptr X10 i) H=some (.bool true):=by rw[qL g,J5 l (by omega),p2 i hi]
  have hi1:((i:Nat):Int)+((1:Nat):Int)=((i+1:Nat):Int):=by omega
  simp(maxSteps:=999999)(disch:=omega) only[zFA,eZ,hiI,hix,r,hi1]
 ·refine yB ?_
  by_cases h:jN l<256
  ·have hiI:((jN l:Nat):Int)< ((256:Nat):Int):=by omega
   have hix:QW 256 1 (.ptr X10 0) (.int .i64 ((jN l:Nat):Int))=some (.ptr X10 (jN l)):=by rw[dU 256 X10 0 .i64 _ rfl h,Nat.zero_add]
   have r:ld1 (.ptr X10 (jN l)) H=some (.bool false):=by rw[qL g,J5 l h,(p3 h).1]
   simp(maxSteps:=999999)(disch:=omega) only[zFA,eZ,hiI,hix,r]
  ·have hiI: ¬((jN l:Nat):Int)< ((256:Nat):Int):=by omega
   simp(maxSteps:=999999)(disch:=omega) only[zFA,eZ,hiI]
theorem zCJ:rep 256 [AV.bool false]=xK []:=by
 rw[xK,show(fun p=>AV.bool (aW [] p))=fun _=>AV.bool false from rfl,List.map_const',List.length_range,zEj]
theorem cookA {h p c:Nat}(hc:c=h*256+p+1):((h:Nat):Int)*((256:Nat):Int)=((h*256:Nat):Int)∧((h*256:Nat):Int)+((p:Nat):Int)=((h*256+p:Nat):Int)∧((h*256+p:Nat):Int)+((1:Nat):Int)=((c:Nat):Int):=by omega
theorem chkS (s:Str)(K:Rs):chk (some (S s)) (S s) K=K:=j0 rfl (by simp[aveq,S])
theorem zGr (m:Nat)(hm:700000000≤m){H:AH}{At M L d:Nat}{kv:Kvs}{nm:Str}{ino:Int}(t:jE H At M L kv)(hL:L≤1000000)(hkv:kv.length≤100000000)(f:gJ d kv)(hd:1≤d)(hd2:d≤2147483647)(hnm:nm.length<4294967281):
  ∃H',f44 (dy (m+1)) (m+1) [.ptr At 0, .int .i64 ((d:Nat):Int),S nm, .int .i64 ino] H=some (.tuple [.int .i64 (((xW d nm ino kv).1:Nat):Int), .int .i64 (((xW d nm ino kv).2.1:Nat):Int)],H')∧jE H' At M (L+200) (xW d nm ino kv).2.2∧Stp (fun B=>B=At∨B=M) H H':=by
 have hk:H.ok:=by obtain⟨_,_,_,_,_,_,_,_,_,ti,_⟩:=t;exact ti.ok
 obtain⟨H1,X6,b1,p1,g1,m1,n1⟩:=box hk (.cells [S nm] 9 1 false)
 have N1:=p1.next
 have x6:Box H1 X6 (S nm):=⟨_,g1⟩
 have hbS:qT (S nm)=[S nm]:=rfl
 have i1: ∀H,f84 (dy (m+1)) (m+1) [.int .i64 ((d:Nat):Int)] H=some (.bool true,H):=fun H=>by
  rw[wC,decide_eq_true (by omega),decide_eq_true (by omega)];rfl
 have y1: ∀H,f85 (dy (m+1)) (m+1) [S nm] H=some (.bool (uE nm),H):=fun H=>zAV _ _ _ hnm
 by_cases hi: ¬(1≤ino∧ino≤2147483647)
 ·have i2: ∀H,f84 (dy (m+1)) (m+1) [.int .i64 ino] H=some (.bool false,H):=fun H=>by
   rw[wC, ← Bool.decide_and,decide_eq_false hi]
  have ha:xW d nm ino kv=(0,1,kv):=by rw[xW,if_neg hi]
  rw[ha]
  refine⟨H1, ?_,(t.prs p1).up (by omega),Prs.stp p1⟩
  simp(maxSteps:=999999)(disch:=omega) only[f44,eZ,cq,hbS,b1,i1,i2]
 replace hi:=Classical.not_not.1 hi
 obtain⟨i,rfl⟩: ∃i:Nat,ino=(i:Int):=⟨ino.toNat,by omega⟩
 have i2: ∀H,f84 (dy (m+1)) (m+1) [.int .i64 ((i:Nat):Int)] H=some (.bool true,H):=fun H=>by
  rw[wC, ← Bool.decide_and,decide_eq_true hi]
 cases hy:uE nm with
 | false=>
  rw[hy]at y1
  have ha:xW d nm ((i:Nat):Int) kv=(0,56,kv):=by rw[xW,if_pos hi,if_neg (by rw[hy];decide)]
  rw[ha]
  refine⟨H1, ?_,(t.prs p1).up (by omega),Prs.stp p1⟩
  simp(maxSteps:=999999)(disch:=omega) only[f44,eZ,cq,hbS,b1,i1,i2,x6.ld,y1]
 | true=>
 rw[hy]at y1
 have hl:=WJ hy
 obtain⟨H2,X10,b2,p2,g2,m2,n2⟩:=box p1.ok (.cells (xK []) 171 1 false)
 obtain⟨H3,X11,b3,p3,g3,m3,n3⟩:=box p2.ok (.cells [.bool false] 4 1 false)
 have N2:=p2.next;have N3:=p3.next
 have x11:Box H3 X11 (.bool false):=⟨_,g3⟩
 obtain⟨H4,e4,x114,s4⟩:=x11.st p3.ok (x:= .bool false) rfl
 have N4:=s4.next
 have P4:Prs H H4:=((p1.trans p2).trans p3).fresh s4 fun B hB=>by omega
 have x64:Box H4 X6 (S nm):=(x6.mono p1.ok (p2.trans p3) fun x=>x).mono p3.ok s4 (by omega)
 have g104:H4.h.get X10=some (.cells (xK []) 171 1 false):=by rw[s4.keep _ (by omega) (by omega)];exact Prs.get p3 p2.ok g2
 have h1: ∀H,f83 (dy (m+1)) (m+1) [S nm] H=some (.int .i64 ((yZ nm:Nat):Int),H):=fun H=>XG _ _ _ (by omega) (by omega)
 have c2:=(f.chain (h:=yZ nm) (by omega) (bE nm)).2.1
 obtain⟨H5,e5,I5,s5⟩:=zCo m hm (t.prs P4) hL hkv f (d:=d) (h:=yZ nm) (by omega) (bE nm) (cv:= .func 87 [] [.ptr X10 0, .ptr X11 0, .ptr X6 0]) (step:=cV nm)
  (IR:=AI X10 X11 X6 nm) (W:=fun B=>B=X10∨B=X11) (fun B hB=>by omega) (fun s H H' hk hI P=>⟨Prs.get P hk hI.1,hI.2.1.mono hk P fun x=>x,hI.2.2.mono hk P fun x=>x⟩)
  (fun s e H' hn hk' hI he=>by
   rw[zGD]
   exact zLm (dy m) m hk' hI (by omega) (c2 e he).1) [] ⟨g104,x114,x64⟩
 obtain⟨r1,r2⟩:=zEf nm (chE d (yZ nm) kv) [] rfl
 obtain⟨g105,x115,x65⟩:=I5
 rw[r1]at x115
 have N5:=s5.next
 have P5:Prs H H5:=P4.fresh s5 fun B hB=>by omega
 have t00: ¬(((0:Nat):Int)≠((0:Nat):Int)):=by omega
 have hb10: ∀K,bA (some (.cells (rep 256 [.bool false]) 171 1 false,fun A=> .ptr A 0)) H1 K=K (.ptr X10 0) H2:=fun K=>by rw[zCJ];exact b2 _ K
 have hb11:qT (.bool false)=[.bool false]:=rfl
 have hfind:(xR d nm kv).isSome=YI nm (chE d (yZ nm) kv):=(zIN nm _).symm
 cases hany:YI nm (chE d (yZ nm) kv)with
 | true=>
  rw[hany]at x115 hfind
  have ha:xW d nm ((i:Nat):Int) kv=(0,6,kv):=by rw[xW,if_pos hi,if_pos hy,if_pos hfind]
  rw[ha]
  refine⟨H5, ?_,(t.prs P5).up (by omega),Prs.stp P5⟩
  simp(maxSteps:=999999)(disch:=omega) only[f44,eZ,cq,hbS,b1,i1,i2,x6.ld,y1,hb10,hb11,b3,e4,x64.ld,h1,e5,t00,x115.ld]
 | false=>
 rw[hany]at x115 hfind
 rw[r2 hany,List.nil_append]at g105
 have lp:=zCV (dy (m+1)) (m+1) (by omega) (a0:= .ptr At 0) (a1:= .int .i64 ((d:Nat):Int)) (a3:= .int .i64 ((i:Nat):Int)) (a6:= .ptr X6 0) (hh:= .int .i64 ((yZ nm:Nat):Int)) g105
 obtain⟨q1,q2,q3,q4⟩:=QI (chE d (yZ nm) kv)
 by_cases hp: ¬jN (chE d (yZ nm) kv)<256
 ·have hpe:jN (chE d (yZ nm) kv)=256:=by omega
  have ha:xW d nm ((i:Nat):Int) kv=(0,3,kv):=by rw[xW,if_pos hi,if_pos hy,if_neg (by rw[hfind];decide),q4 hpe]
  rw[ha]
  rw[hpe]at lp
  refine⟨H5, ?_,(t.prs P5).up (by omega),Prs.stp P5⟩
  simp(maxSteps:=999999)(disch:=omega) only[f44,eZ,cq,hbS,b1,i1,i2,x6.ld,y1,hb10,hb11,b3,e4,x64.ld,h1,e5,t00,x115.ld,lp,zKQ]
 ·replace hp:=Classical.not_not.1 hp
  have hpl:=(q3 hp).2
  have hh:=bE nm
  obtain⟨_,hfe,hfr⟩:=f.free (i:=i) (by omega) hpl (by omega) (by omega) hy
  have ha:xW d nm ((i:Nat):Int) kv=(yZ nm*256+jN (chE d (yZ nm) kv)+1,0,Nd.putP (yD d (yZ nm*256+jN (chE d (yZ nm) kv)+1)) (xI ⟨yZ nm*256+jN (chE d (yZ nm) kv)+1,i,nm⟩) kv):=by
   rw[xW,if_pos hi,if_pos hy,if_neg (by rw[hfind];decide),hpl];rfl
  rw[ha]
  obtain⟨c,hc⟩: ∃c,c=yZ nm*256+jN (chE d (yZ nm) kv)+1:=⟨_,rfl⟩
  rw[← hc]at hfe hfr⊢
  obtain⟨H6,e6,p6⟩:=XF (dy (m+1)) (m+1) (by omega) s5.ok (d:=d) (c:=c) (by omega) (by omega)
  obtain⟨H7,e7,p7⟩:=dL (dy (m+1)) (m+1) (by omega) p6.ok i (by omega)
  have x66:=(x65.mono s5.ok p6 fun x=>x).ld
  have x67:=(x65.mono s5.ok (p6.trans p7) fun x=>x).ld
  have hval:k7 .add (S (dig i 4)) (S nm)=some (S (xI ⟨c,i,nm⟩)):=by rw[cK _ _ (by simp[jR];omega)];rfl
  have hput:aX (yD d c) (xI ⟨c,i,nm⟩)=true:=by
   have:(xI ⟨c,i,nm⟩).length=4+nm.length:=by simp[xI,jR]
   simp[aX,Nd.mayK,wI,this];omega
  have P7:Prs H H7:=(P5.trans p6).trans p7
  obtain⟨m',rfl⟩: ∃m',m=m'+1:=⟨m - 1,by omega⟩
  obtain⟨H8,e8,t8,s8⟩:=zEw m' (m'+1+1) (by omega) (by omega) (t.prs P7) (by omega) (by omega) (k:=yD d c) (v:=xI ⟨c,i,nm⟩)
  rw[hput]at e8 t8
  simp only[if_true]at e8 t8
  refine⟨H8, ?_,t8,(Prs.stp P7).trans s8⟩
  have hne:((jN (chE d (yZ nm) kv):Nat):Int)≠((256:Nat):Int):=by omega
  obtain⟨hm1,ha1,ha2⟩:=cookA hc
  simp(maxSteps:=999999)(disch:=omega) only[f44,eZ,cq,hbS,b1,i1,i2,x6.ld,y1,hb10,hb11,b3,e4,x64.ld,h1,e5,t00,x115.ld,lp,zKQ,hne,hm1,ha1,ha2,x65.ld,e6,x66,chkS,e7,x67,hval,e8]
theorem zBp {most:Nat} : ∀(l a:Kvs),a.length≤most→(jG (vL most) l (a,false)).2=((a++l).take most,decide (most<a.length+l.length))
 | [],a,h=>by
  rw[List.append_nil,zJ h,zW,Nat.add_zero,decide_eq_false (by omega)];rfl
 | x::l,a,h=>by
  by_cases hf:a.length=most
  ·have hs:vL most (a,false) x=(false,(a,true)):=by simp only[vL,show Nat.beq a.length most=true by rw[Nat.beq_eq];exact hf,cond_true]
   simp only[jG,hs,cond_false]
   rw[List.take_append_of_le_length (by omega),zJ (by omega),decide_eq_true (by simp;omega)]
  ·have hne:Nat.beq a.length most=false:=by
    cases hb:Nat.beq a.length most with
    | false=>rfl
    | true=>exact absurd (Nat.eq_of_beq_eq_true hb) hf
   have hs:vL most (a,false) x=(true,(a++[x],false)):=by simp only[vL,hne,cond_false]
   simp only[jG,hs,cond_true]
   rw[zBp l (a++[x]) (by simp;omega),List.append_assoc,List.singleton_append]
   simp only[zH,zF,zW]
   rw[show a.length+(0+1)+l.length=a.length+(l.length+1)by omega]
theorem zEt (m:Nat)(hm:700000000≤m){H:AH}{At M L:Nat}{kv:Kvs}(t:jE H At M L kv)(hL:L≤1000000)(hkv:kv.length≤1000000000)(fr to:Str){most:Nat}(hmo:most≤2147483647):
  ∃H' v,f90 (dy (m+1)) (m+1) [.ptr At 0,S fr,S to, .int .i64 ((most:Nat):Int)] H=some (.tuple [v, .bool (decide (most< (jC fr to kv).length)), .int .i64 ((0:Nat):Int)],H')∧Prs H H'∧jF 2 48 H' v ((jC fr to kv).take most).length (((jC fr to kv).take most).flatMap prV)∧ ∀B,Blk v B→H.next≤B:=by
 obtain⟨d,c,_,root,es,q,last,rfl,hc,ti,h2,h3,h4,h5⟩:=t
 have hold:=ti.hold
 have lA:=ti.ok.lt ti.gT
 have lM:=ti.ok.lt ti.gM
 have hg:GI0 H.next At M root q H (fun _=>False):=⟨fun _ x=>x,lA,lM,d,c,es,last,ti,hold⟩
 have main: ∀L0,Vis (Qf q []) root fr to L0→L0.length≤8192+q.length→(jG (kV fr to (vL most)) L0 ([],false)).2=((jC fr to kv).take most,decide (most< (jC fr to kv).length))→ ∃H' v,f90 (dy (m+1)) (m+1) [.ptr At 0,S fr,S to, .int .i64 ((most:Nat):Int)] H=some (.tuple [v, .bool (decide (most< (jC fr to kv).length)), .int .i64 ((0:Nat):Int)],H')∧Prs H H'∧jF 2 48 H' v ((jC fr to kv).take most).length (((jC fr to kv).take most).flatMap prV)∧ ∀B,Blk v B→H.next≤B:=by
  intro L0 hv hl hr
  obtain⟨H',Wg',v,e,_,s,_,g,f⟩:=VT (zEn H.next At M root q) m hm hg (Nat.le_refl _) hmo hv hl (by omega)
  rw[hr]at e g
  exact⟨H',v,e,s,g,f⟩
 rcases h5 with⟨rfl,rfl⟩ | ⟨s,h,nd,t,S0,rfl,hs,rn,wr,nd0,rfl⟩
 ·exact main [] (.inl ⟨.inl rfl,rfl⟩) (by simp) (by
   show(([],false):Kvs×Bool)=(List.take most [],decide (most<0))
   rw[List.take_nil,decide_eq_false (by omega)])
 ·by_cases hto:to≠[]∧ltS fr to=false
  ·refine main [] (.inl ⟨.inr hto,rfl⟩) (by simp) ?_
   rw[ZA hto.1 hto.2]
   show(([],false):Kvs×Bool)=(List.take most [],decide (most<0))
   rw[List.take_nil,decide_eq_false (by omega)]
  ·have hto':to=[]∨ltS fr to=true:=by
    by_cases h0:to=[]
    ·exact .inl h0
    ·right
     cases hb:ltS fr to with
     | true=>rfl
     | false=>exact absurd ⟨h0,hb⟩ hto
   obtain⟨_,_,hvl⟩:=KQ (Q:=Qf q []) (fr:=fr) (to:=to) (p:=pp s) rn wr
   obtain⟨_,hql⟩:=JD hs rn wr nd0
   refine main (wN (Qf q []) fr to h (pp s) nd) (.inr ⟨by simp[pp],hto',h,nd,by have:=wr.low hkv;omega, ?_,zDv rn wr,rfl⟩) (by omega) ?_
   ·rw[ZI];simpa[qS]using hs
   ·rw[zB8 rn wr,zBp _ [] (by simp),List.nil_append,zW,Nat.zero_add];rfl
theorem zDf (D:Dyn)(n:Nat)(hn:1≤n){H:AH}(hk:H.ok)(s:Str){b:UInt8}(hb:b.toNat<255)(hs:s.length≤1000000): ∃H',f91 D n [S (s++[b])] H=some (S (s++[UInt8.ofNat (b.toNat+1)]),H')∧Prs H H':=by
 obtain⟨H1,A,b1,p1,g1,m1,n1⟩:=box hk (.cells [.int .u8 ((b.toNat+1:Nat):Int)] 5 1 false)
 refine⟨H1, ?_,p1⟩
 obtain⟨n',rfl⟩: ∃n',n=n'+1:=⟨n - 1,by omega⟩
 have hl:kS (S (s++[b]))=some (.int .i64 ((s.length+1:Nat):Int)):=by rw[wO];simp
 have hsu:((s.length+1:Nat):Int) - ((1:Nat):Int)=((s.length:Nat):Int):=by omega
 have hge:((0:Nat):Int)≤((s.length:Nat):Int):=by omega
 have hx:YW (S (s++[b])) (.int .i64 ((s.length:Nat):Int))=some (.int .u8 ((b.toNat:Nat):Int)):=by
  rw[QV (s++[b]) .i64 (show s.length< (s++[b]).length by simp)]
  simp
 have hne:((b.toNat:Nat):Int)≠((255:Nat):Int):=by omega
 have hcut:ZF (S (s++[b])) none (some (.int .i64 ((s.length:Nat):Int)))=some (S s):=by
  rw[zHr _ _ (by omega) (by simp)]
  simp
 have hadd:((b.toNat:Nat):Int)+((1:Nat):Int)=((b.toNat+1:Nat):Int):=by omega
 have hw:IntKind.wrap .u8 ((b.toNat+1:Nat):Int)=((b.toNat+1:Nat):Int):=by rw[wrap_u8];omega
 have bl:uM 5 1 1 [.int .u8 ((0:Nat):Int)] [(0, .int .u8 ((b.toNat+1:Nat):Int))]=some (.cells [.int .u8 ((b.toNat+1:Nat):Int)] 5 1 false,fun A=> .slice A 0 1 2):=rfl
 have hcv:zHd (.slice A 0 1 2) H1=some (S [UInt8.ofNat (b.toNat+1)]):=cv1 p1.ok (by rw[U0 (by omega)];exact g1)
 have had:k7 .add (S s) (S [UInt8.ofNat (b.toNat+1)])=some (S (s++[UInt8.ofNat (b.toNat+1)])):=by rw[cK _ _ (by simp;omega)]
 have body:zKO D (n'+1) [S (s++[b]), .int .i64 ((s.length:Nat):Int)] H=some (.ret (S (s++[UInt8.ofNat (b.toNat+1)])),H1):=by
  simp(maxSteps:=999999)(disch:=omega) only[zKO,eZ,hge,hx,hne,ne_eq,not_false_eq_true,hcut,hadd,hw,bl,b1,hcv,had]
 simp(maxSteps:=999999)(disch:=omega) only[f91,eZ,hl,hsu,dP body]
theorem JI {d:Nat}(hd:d<256):vK d=[101,0,0,0]++[UInt8.ofNat d]:=by
 have h3:d / 256 ^ 3 % 256=0:=by rw[Nat.div_eq_of_lt (by omega)]
 have h2:d / 256 ^ 2 % 256=0:=by rw[Nat.div_eq_of_lt (by omega)]
 have h1:d / 256 ^ 1 % 256=0:=by rw[Nat.div_eq_of_lt (by omega)]
 have h0:d / 256 ^ 0 % 256=d:=by rw[Nat.pow_zero,Nat.div_one,Nat.mod_eq_of_lt hd]
 simp only[vK,dig]
 rw[h3,h2,h1,h0];rfl
theorem zDg (D:Dyn)(n:Nat)(hn:1≤n){H:AH}(hk:H.ok){d:Nat}(hd:d<255): ∃H',f91 D n [S (vK d)] H=some (S (vK (d+1)),H')∧Prs H H':=by
 have e1:=JI (d:=d) (by omega)
 have e2:=JI (d:=d+1) (by omega)
 have hb:(UInt8.ofNat d).toNat=d:=U0 (by omega)
 have:=zDf D n hn hk [101,0,0,0] (b:=UInt8.ofNat d) (by omega) (by simp)
 rwa[hb, ← e1, ← e2]at this
def etV (e:En):List AV:=[S e.n, .int .i64 ((e.i:Nat):Int), .int .i64 ((e.c:Nat):Int)]
def Ens (H:AH)(v:AV)(l:List En):Prop:=jF 3 99 H v l.length (l.flatMap etV)
theorem zIj (m:Nat)(hm:700000000≤m){H:AH}{At M L d b most:Nat}{kv:Kvs}(t:jE H At M L kv)(hL:L≤1000000)(hkv:kv.length≤100000000)(f:gJ d kv)(hd:1≤d)(hd2:d<255)(hb:b≤262144)(hmo:most≤2147483647):
  ∃H' v,f45 (dy (m+1)) (m+1) [.ptr At 0, .int .i64 ((d:Nat):Int), .int .i64 ((b:Nat):Int), .int .i64 ((most:Nat):Int)] H=some (.tuple [v, .bool (!decide (most< (liE d b kv).length)), .int .i64 ((0:Nat):Int)],H')∧Prs H H'∧Ens H' v ((liE d b kv).take most)∧ ∀B,Blk v B→H.next≤B:=by
 have hk:H.ok:=by obtain⟨_,_,_,_,_,_,_,_,_,ti,_⟩:=t;exact ti.ok
 obtain⟨c1,c2,c3⟩:=f.list (b:=b) (by omega) hb
 obtain⟨H1,e1,p1⟩:=XF (dy (m+1)) (m+1) (by omega) hk (d:=d) (c:=b+1) (by omega) (by omega)
 obtain⟨H2,e2,p2⟩:=dL (dy (m+1)) (m+1) (by omega) p1.ok d (by omega)
 obtain⟨H3,e3,p3⟩:=zDg (dy (m+1)) (m+1) (by omega) p2.ok (d:=d) hd2
 have P3:Prs H H3:=(p1.trans p2).trans p3
 obtain⟨H4,v,e4,p4,gv,fv⟩:=zEt m hm (t.prs P3) hL (by omega) (yD d (b+1)) (vK (d+1)) (most:=most) hmo
 have hbt:jC (yD d (b+1)) (vK (d+1)) kv=(liE d b kv).map (wP d):=c1
 rw[hbt,zY]at e4
 rw[hbt, ← List.map_take]at gv
 obtain⟨l,hl⟩: ∃l,l=(liE d b kv).take most:=⟨_,rfl⟩
 have hlf: ∀e∈l,e.fine:=fun e he=>by rw[hl]at he;exact(c2 e (List.mem_of_mem_take he)).1
 have hll:l.length≤100000000:=by
  have h1:=List.length_filter_le (inP (yD d (b+1)) (vK (d+1))) kv
  rw[c1,zY]at h1
  rw[hl,zG];omega
 rw[← hl]at gv⊢
 have hv:zJM H4 v (l.map (wP d)):=gv.row
 have P4:Prs H H4:=P3.trans p4
 have N3:=P3.next;have N4:=p4.next
 have lp:=v8 (b:=zFz (dy (m+1)) (m+1)) l.length (fun i us H'=> ∃w,us=[.bool (decide (most< (liE d b kv).length)),w,v, .int .i64 ((l.length:Nat):Int), .int .i64 ((i:Nat):Int)]∧Prs H4 H'∧Ens H' w (l.take i)∧(∀B,Blk w B→H4.next≤B)) (fun i us H' hi ⟨w,hus,P,hw,fw⟩=>by
  subst hus
  have hil:i< (l.map (wP d)).length:=by simpa using hi
  have hv':zJM H' v (l.map (wP d)):=Rw.stp hv P fun _ _ x=>x
  obtain⟨A',o,i1,i2,i3,i4⟩:=hv'.at hil
  have hg:(l.map (wP d))[i]=wP d l[i]:=by simp
  rw[hg]at i2
  have N:=P.next
  have hfe:=hlf _ (zQ hi)
  obtain⟨H5,A8,b5,p5,g5,m5,n5⟩:=box P.ok (.cells [S [],S []] 48 1 false)
  obtain⟨H6,e6,g6,s6,n6⟩:=qW p5.ok g5 (l':=[S (yD d l[i].c),S (xI l[i])]) rfl rfl
  have e6':stN 2 (.ptr A8 0) (.agg [S (yD d l[i].c),S (xI l[i])]) H5=some (qM,H6):=e6
  have P6:Prs H' H6:=p5.fresh s6 fun B hB=>by omega
  have N5:=p5.next;have N6:=s6.next
  obtain⟨H7,e7,p7⟩:=zCg (dy (m+1)) (m+1) (by omega) P6.ok (d:=d) hfe
  obtain⟨H8,A9,b8,p8,g8,m8,n8⟩:=box p7.ok (.cells sd0 174 1 false)
  obtain⟨H9,e9,g9,s9,n9⟩:=qW p8.ok g8 (l':=sdV d l[i]) rfl rfl
  have e9':stN 5 (.ptr A9 0) (.agg (sdV d l[i])) H8=some (qM,H9):=e9
  have N7:=p7.next;have N8:=p8.next;have N9:=s9.next
  have P9:Prs H' H9:=((P6.trans p7).trans p8).fresh s9 fun B hB=>by omega
  obtain⟨H10,A10,b10,p10,g10,m10,n10⟩:=box P9.ok (.cells (etV l[i]) 99 3 false)
  have hsrc:srcOf 3 (.slice A10 0 1 2) H10=some (1,etV l[i]):=by simp only[srcOf,g10];rfl
  obtain⟨w',H11,e11,gw11,s11,f11⟩:=jF.app (bytes:=32) (m:=1) p10.ok (by decide) (jF.mono hw (P9.trans p10) fun _ _ x=>x) hsrc rfl rfl (by simp;omega) (by decide)
  have N10:=p10.next
  have P11:Prs H4 H11:=(P.trans (P9.trans p10)).fresh s11 fw
  have fl:(l.take (i+1)).flatMap etV=(l.take i).flatMap etV++etV l[i]:=by rw[zM hi,qA];simp
  refine⟨_,H11, ?_,w',rfl,P11, ?_,fun B hB=> ?_⟩
  ·have hiI:((i:Nat):Int)< ((l.length:Nat):Int):=by omega
   have hi1:((i:Nat):Int)+((1:Nat):Int)=((i+1:Nat):Int):=by omega
   have hS:(AV.str 0 0)=S []:=rfl
   have hbx:bxV 48 (.agg [S [],S []])=some (.cells [S [],S []] 48 1 false,fun A=> .ptr A 0):=rfl
   have hbs:bxV 174 (.agg [S [], .int .i64 ((0:Nat):Int), .int .i64 ((0:Nat):Int),S [], .bool false])=some (.cells sd0 174 1 false,fun A=> .ptr A 0):=rfl
   have i2':ldN 2 (.ptr A' o) H'=some (.agg [S (yD d l[i].c),S (xI l[i])]):=i2
   have r6:ldN 2 (.ptr A8 0) H6=some (.agg [S (yD d l[i].c),S (xI l[i])]):=by rw[qQ g6];rfl
   have r94:ld1 (.ptr A9 4) H9=some (.bool true):=by rw[qL g9];rfl
   have r93:ldN 3 (.ptr A9 0) H9=some (.agg (etV l[i])):=by rw[qQ g9];rfl
   have bl1:uM 99 3 1 [S [], .int .i64 ((0:Nat):Int), .int .i64 ((0:Nat):Int)] [(0, .agg (etV l[i]))]=some (.cells (etV l[i]) 99 3 false,fun A=> .slice A 0 1 2):=rfl
   simp(maxSteps:=999999)(disch:=omega) only[zFz,zMT,eZ,hiI,i1,i2',hS,hbx,b5,e6',r6,e7,qK,nth,hbs,b8,e9',r94,r93,bl1,b10,e11,hi1]
  ·show jF 3 _ _ w' _ _
   rw[fl]
   have e:(l.take (i+1)).length=(l.take i).length+1:=by simp;omega
   rw[e];exact gw11
  ·rcases f11 B hB with e | e
   ·exact fw B e
   ·omega) (m+1) _ H4 ⟨.nilSlice,rfl,Stp.refl p4.ok, .inl (Own.nil ..),fun B hB=>(Blk.nil.1 hB).elim⟩ (by omega)
 obtain⟨q,us,H5,e5,w,rfl,P5,hw,fw⟩:=lp
 rw[qB]at hw
 refine⟨H5,w, ?_,P4.trans P5,hw,fun B hB=>by have:=fw B hB;omega⟩
 have last:qV (q+1) (zFz (dy (m+1)) (m+1)) [.bool (decide (most< (liE d b kv).length)),w,v, .int .i64 ((l.length:Nat):Int), .int .i64 ((l.length:Nat):Int)] H5=some (.exit 0 [.bool (decide (most< (liE d b kv).length)),w],H5):=yB (by simp only[zFz,eZ,zX])
 have i1: ∀H,f84 (dy (m+1)) (m+1) [.int .i64 ((d:Nat):Int)] H=some (.bool true,H):=fun H=>by
  rw[wC,decide_eq_true (by omega),decide_eq_true (by omega)];rfl
 have t1: ¬((b:Nat):Int)< ((0:Nat):Int):=by omega
 have t2: ¬((most:Nat):Int)< ((0:Nat):Int):=by omega
 have hmn:mn2 (.int .i64 ((b:Nat):Int)) (.int .i64 ((262144:Nat):Int))=some (.int .i64 ((b:Nat):Int)):=by
  have hb:ilt ((262144:Nat):Int) ((b:Nat):Int)=false:=by rw[xP];simp;omega
  simp only[mn2,hb,cond_false]
 have hb1:((b:Nat):Int)+((1:Nat):Int)=((b+1:Nat):Int):=by omega
 have zMJ:(AV.str 1 101)=S [101]:=rfl
 have h1:k7 .add (S [101]) (S (dig d 4))=some (S (vK d)):=by rw[cK _ _ (by simp[jR])];rfl
 have t00: ¬(((0:Nat):Int)≠((0:Nat):Int)):=by omega
 have hln:lnSl v=some (.int .i64 ((l.length:Nat):Int)):=by rw[hv.lnSl,zY]
 simp(maxSteps:=999999)(disch:=omega) only[f45,eZ,cq,i1,t1,t2,hmn,hb1,e1,e2,zMJ,h1,e3,e4,qK,nth,t00,hln,e5,last,zMU]
theorem zGm (D:Dyn)(n:Nat){H:AH}(hk:H.ok): ∃H' A,f49 D n [.int .i64 ((64:Nat):Int)] H=some (.tuple [.ptr A 0, .int .i64 ((0:Nat):Int)],H')∧Prs H H':=by
 obtain⟨H1,A1,b1,p1,g1,m1,n1⟩:=box hk (.map [6] [])
 obtain⟨H2,A2,b2,p2,g2,m2,n2⟩:=box p1.ok (.map [6] [])
 obtain⟨H3,A3,b3,p3,g3,m3,n3⟩:=box p2.ok (.cells [.int .i64 ((64:Nat):Int), .map A1, .nilSlice, .map A2, .int .i64 ((0:Nat):Int), .nilSlice, .bool false] 163 1 false)
 refine⟨H3,A3, ?_,(p1.trans p2).trans p3⟩
 have a1: ¬((64:Nat):Int)< ((64:Nat):Int):=by omega
 have a2: ¬((8192:Nat):Int)< ((64:Nat):Int):=by omega
 have bs:jX [(0,1),(1,1),(2,1),(3,1),(4,1),(5,1),(6,1)] [.int .i64 ((0:Nat):Int), .nilMap, .nilSlice, .nilMap, .int .i64 ((0:Nat):Int), .nilSlice, .bool false] [(0, .int .i64 ((64:Nat):Int)),(1, .map A1),(3, .map A2)]=some (.agg [.int .i64 ((64:Nat):Int), .map A1, .nilSlice, .map A2, .int .i64 ((0:Nat):Int), .nilSlice, .bool false]):=rfl
 simp(maxSteps:=999999)(disch:=omega) only[f49,f94,eZ,a1,a2,mkM,b1,b2,bs,b3]
theorem zIb (D:Dyn)(n:Nat)(hn:100≤n){H:AH}(hk:H.ok): ∃H' At M,f42 D n [] H=some (.ptr At 0,H')∧Prs H H'∧H.next≤At∧H.next≤M∧jE H' At M 0 []:=by
 obtain⟨H1,A1,e1,p1⟩:=zGm D n hk
 obtain⟨H2,At,M,e2,p2,m2,m2',ti⟩:=zKp D n hn p1.ok A1 0 (c:= .nilPtr) rfl
 have N1:=p1.next
 refine⟨H2,At,M, ?_,p1.trans p2,by omega,by omega,ti⟩
 have t00: ¬(((0:Nat):Int)≠((0:Nat):Int)):=by omega
 have bz:jX [(0,1),(1,1),(2,1)] [.int .i64 ((0:Nat):Int), .int .i64 ((0:Nat):Int), .int .u64 ((0:Nat):Int)] []=some (.agg (qX pZ)):=rfl
 simp(maxSteps:=999999)(disch:=omega) only[f42,eZ,e1,qK,nth,bz,e2,t00]
theorem zGV {d:Nat}{nm:Str}{ino:Int}{kv:Kvs}(h:(xW d nm ino kv).2.1≠0):(xW d nm ino kv).2.2=kv:=by
 by_cases h1:1≤ino∧ino≤2147483647
 ·by_cases h2:uE nm=true
  ·by_cases h3:(xR d nm kv).isSome=true
   ·rw[xW,if_pos h1,if_pos h2,if_pos h3]
   ·cases hp:dK (chE d (yZ nm) kv)with
    | none=>rw[xW,if_pos h1,if_pos h2,if_neg h3,hp]
    | some p=>rw[xW,if_pos h1,if_pos h2,if_neg h3,hp]at h;exact absurd rfl h
  ·rw[xW,if_pos h1,if_neg h2]
 ·rw[xW,if_neg h1]
theorem XV {d:Nat}{nm:Str}{i:Nat}{kv:Kvs}(f:gJ d kv)(hd:d<2147483648)(h:(xW d nm ((i:Nat):Int) kv).2.1=0): ∃e:En,e.fine∧e.i=i∧e.n=nm∧uE nm=true∧xR d nm kv=none∧(∀q∈kv,q.1≠yD d e.c)∧xW d nm ((i:Nat):Int) kv=(e.c,0,Nd.putP (yD d e.c) (xI e) kv):=by
 by_cases h1:1≤((i:Nat):Int)∧((i:Nat):Int)≤2147483647
 ·by_cases h2:uE nm=true
  ·by_cases h3:(xR d nm kv).isSome=true
   ·rw[xW,if_pos h1,if_pos h2,if_pos h3]at h;cases h
   ·cases hp:dK (chE d (yZ nm) kv)with
    | none=>rw[xW,if_pos h1,if_pos h2,if_neg h3,hp]at h;cases h
    | some p=>
     obtain⟨g1,g2,g3⟩:=f.free (i:=i) hd hp (by omega) (by omega) h2
     refine⟨_,g2,rfl,rfl,h2, ?_,g3, ?_⟩
     ·cases hf:xR d nm kv with
      | none=>rfl
      | some e=>rw[hf]at h3;exact absurd rfl h3
     ·rw[xW,if_pos h1,if_pos h2,if_neg h3,hp];rfl
  ·rw[xW,if_pos h1,if_neg h2]at h;cases h
 ·rw[xW,if_neg h1]at h;cases h
theorem zBW {α:Type}(f:α→List AV)(k:Nat)(hf: ∀a,(f a).length=k): ∀(l:List α) (i:Nat) (h:i<l.length),((l.flatMap f).drop (i*k)).take k=f l[i]
 | p::l,0,_=>by
  rw[Nat.zero_mul,List.drop_zero,zO,List.take_left' (hf p)];rfl
 | p::l,i+1,h=>by
  rw[zO,show(i+1)*k=k+i*k by rw[Nat.succ_mul,Nat.add_comm], ← List.drop_drop,List.drop_left' (hf p)]
  exact zBW f k hf l i (by simpa using h)
def EnR (H:AH)(v:AV)(l:List En):Prop:=Rw 3 H v l.length (l.flatMap etV)
theorem EnR.at {H:AH}{v:AV}{l:List En}(h:EnR H v l){i:Nat}(hi:i<l.length): ∃A o,(∀κ (z:Int),z=(i:Int)→jP 3 v (.int κ z)=some (.ptr A o))∧Eng.ldN 3 (.ptr A o) H=some (.agg (etV l[i])):=by
 obtain⟨A,o,c,e,sz,g,h1,h2,h3,h4,h5⟩:=Rw.at h hi
 rw[zBW etV 3 (fun _=>rfl) l i hi]at h5
 exact⟨A,o,h1,by rw[WM h2 h4,h5]⟩
end Go.Eng.Sh
end
section
namespace Go.Eng
theorem BQ {w:World}{base n:Nat}{a:Addr}{cs:List Value}(h:w.cells? base a n=some cs)(hn:0<n):a.spot=none∧ ∃arr e fz,w.heap[a.block]? =some (.cells arr e fz)∧ ∀j,j<n→arr[a.off+j]? =cs[j]? :=by
 obtain⟨_,hl,hc⟩:=World.cells?_some h
 have h0:=hc 0 hn
 rw[zB (by omega)]at h0
 obtain⟨c1,arr,te,fz,hg,_⟩:=BR h0
 have hsp:a.spot=none:=by simpa[Addr.add]using c1
 obtain⟨b,o,sp⟩:=a
 simp only at hsp;subst hsp
 have hb:(Addr.add ⟨b,o,none⟩ 0).block=b:=by simp[Addr.add]
 rw[hb]at hg
 refine⟨rfl,arr,te,fz,hg,fun j hj=> ?_⟩
 have hj':=hc j hj
 rw[zB (by omega)]at hj'⊢
 obtain⟨_,arr',te',fz',hg',hv⟩:=BR hj'
 rw[jL]at hg' hv
 simp only at hg' hv
 rw[hg]at hg'
 simp only[z6,Obj.cells.injEq]at hg'
 rw[← hg'.1]at hv;exact hv
theorem zAA {α β:Type}{k:Nat}{g:α→List β}(hg: ∀s,(g s).length=k): ∀l:List α,(l.flatMap g).length=l.length*k
 | []=>by simp
 | s::l=>by rw[zO,zH,zAA hg l,hg,zF,Nat.succ_mul,Nat.add_comm]
theorem zFn {α β:Type}{k:Nat}{g:α→List β}(hg: ∀s,(g s).length=k): ∀(l:List α) (i j:Nat) (hi:i<l.length),j<k→(l.flatMap g)[i*k+j]? =(g l[i])[j]?
 | s::l,0,j,_,hj=>by
  rw[zO,Nat.zero_mul,Nat.zero_add,zZ (by rw[hg];exact hj)];rfl
 | s::l,i+1,j,h,hj=>by
  have ih:=zFn hg l i j (by simpa using h) hj
  rw[zO,qC (by rw[hg,Nat.succ_mul];omega)]
  have:(i+1)*k+j - (g s).length=i*k+j:=by rw[hg,Nat.succ_mul];omega
  rw[this,ih];rfl
theorem srows_arg {α:Type}[Inhabited α]{H:Type}{enc:TypeId×Value→H}{P:Program}{w:World}{base:Nat}{held:Bool}{fuel:Nat}{v:Value}{x:DataW H×List MemPlace}{t e:TypeId}{k:Nat}(hk:0<k){vals:α→List Value}(hvl: ∀s,(vals s).length=k){good:α→Prop}(ht:P.underlying t=some (.slice e))(hc:P.cellsOf e=k)
  (hd: ∀ {fuel:Nat} {cs:List Value} {x:DataW H×List MemPlace},DataW.trod enc P w base (fun _=>true) held fuel e cs=some x→ ∃s,cs=vals s∧good s)
  (h:DataW.trod enc P w base (fun _=>true) held fuel t [v]=some x):
  ∃l:List α,Rw k (H0 w) (bI w.heap.size v) l.length (l.flatMap fun s=>(vals s).map (cellAV w.heap.size))∧ ∀s∈l,good s:=by
 have hgl: ∀s,((vals s).map (cellAV w.heap.size)).length=k:=fun s=>by rw[zY,hvl]
 rcases Deep.open_slice ht h with⟨h1,_⟩ | ⟨a,len,cap,m,n,D,Pl,h1,_,hl,_,hm,_,hx⟩
 ·simp only[List.cons.injEq,and_true]at h1;subst h1
  exact⟨[],⟨by simp, .inl ⟨rfl,rfl⟩⟩,by simp⟩
 ·simp only[List.cons.injEq,and_true]at h1;subst h1
  simp only[if_true]at hm;subst hm
  by_cases h0:m=0
  ·subst h0
   obtain rfl:len=0:=by omega
   exact⟨[],⟨by simp, .inr (.inl ⟨rfl,rfl⟩)⟩,by simp⟩
  ·simp only[hc]at hx
   have hp: ∀i,i<m→ ∃p:α,w.cells? base (a.add (i*k)) k=some (vals p)∧good p:=fun i hi=>by
    obtain⟨cs,k1,k2⟩:=hx i hi
    obtain⟨p,rfl,hs⟩:=hd k2
    exact⟨p,k1,hs⟩
   obtain⟨Px,hP⟩:=Deep.choose_lt hp
   obtain⟨b,o,sp⟩:=a
   obtain⟨c1,arr,te,fz,hg,hat0⟩:=BQ (hP 0 (by omega)).1 hk
   have hsp:sp=none:=by simpa[Addr.add]using c1
   subst hsp
   rw[jL]at hg
   simp only at hg
   have hat: ∀i,i<m→ ∀j,j<k→arr[o+i*k+j]? =(vals (Px i))[j]? :=fun i hi j hj=>by
    obtain⟨_,arr',te',fz',hg',hv⟩:=BQ (hP i hi).1 hk
    rw[jL]at hg' hv
    simp only at hg' hv
    rw[hg]at hg'
    simp only[z6,Obj.cells.injEq]at hg'
    rw[hg'.1];exact hv j hj
   have hmk:(m - 1)*k+k=m*k:=by rw[← Nat.succ_mul,Nat.succ_eq_add_one,Nat.sub_add_cancel (by omega)]
   have hsz:o+m*k≤arr.size:=by
    have h2:=hat (m - 1) (by omega) (k - 1) (by omega)
    rw[zB (by rw[hvl];omega)]at h2
    have:=(Array.getElem?_eq_some_iff.1 h2).1
    omega
   have hlk:len*k≤m*k:=zT _ (by omega)
   rw[zIL w (by omega) (zFf hg)]
   refine⟨(List.range len).map Px,⟨zAA hgl _, .inr (.inr ⟨b,o,2*m,_,te,0,false,by simp,zJ0 w hg,zFf hg,by simp;omega, ?_⟩)⟩, ?_⟩
   ·apply List.ext_getElem?
    intro q
    simp only[zY,List.length_range]
    by_cases hq:q<len*k
    ·have hqi:q / k<len:=Nat.div_lt_of_lt_mul (by rw[Nat.mul_comm];exact hq)
     have hqj:q % k<k:=Nat.mod_lt _ hk
     have e1:q / k*k+q % k=q:=by rw[Nat.mul_comm];exact Nat.div_add_mod q k
     rw[qF hq,qE,qI,Array.getElem?_toList]
     have h3:=hat (q / k) (by omega) (q % k) hqj
     rw[Nat.add_assoc,e1]at h3
     have h4:=zFn hgl ((List.range len).map Px) (q / k) (q % k) (by simpa using hqi) hqj
     rw[e1]at h4
     rw[h3,h4,qI]
     simp only[List.getElem_map,List.getElem_range]
    ·rw[List.getElem?_eq_none (by simp;omega),List.getElem?_eq_none (by rw[zAA hgl];simp;omega)]
   ·intro p hp
    obtain⟨i,hi,rfl⟩:=List.mem_map.1 hp
    exact(hP i (by have:=List.mem_range.1 hi;omega)).2
end Go.Eng
end
section
namespace Go.Di
open Go.Nd (Str Kvs putP delP lookP Srt mayK)
open Go.Eng (ltS y5 y6 xM kN wK)
open Go.Bt (inP y9 bX)
open Go.Dr
open Go.Eng.Sh (xW XV zGV bD Y9)
theorem bC {d d' a b:Nat}(hd:d<4294967296)(hd':d'<4294967296)(ha:a<4294967296)(hb:b<4294967296)(h:yD d a=yD d' b):d=d'∧a=b:=by
 obtain⟨h1,h2⟩:=List.append_inj h (by rw[wF,wF])
 simp only[vK,List.cons.injEq,true_and]at h1
 have e1:=congrArg num h1
 have e2:=congrArg num h2
 rw[vE (by omega),vE (by omega)]at e1 e2
 exact⟨e1,e2⟩
theorem zMi {d d' c:Nat}{v:Str}(hd:d<2147483648)(hd':d'<2147483648)(h:d≠d'):inP (yD d 1) (vK (d+1)) (yD d' c,v)=false:=by
 have hne:(vK (d+1)).isEmpty=false:=rfl
 simp only[inP,y9,hne,Bool.false_or]
 rcases Nat.lt_or_gt_of_ne h with h | h
 ·rw[zHC c (show d+1≤d' by omega) (by omega),Bool.and_false]
 ·have h1:=WO c h (by omega)
  have h2:ltS (vK d) (yD d 1)=true:=by
   have:=zAu (vK d) [] (dig 1 4)
   rw[List.append_nil]at this
   rw[yD,this];rfl
  rw[y6 h1 h2];rfl
theorem gJ.put2 {d d' c:Nat}{v:Str}{kv:Kvs}(f:gJ d kv)(hd:d<2147483648)(hd':d'<2147483648)(h:d≠d'):gJ d (putP (yD d' c) v kv):=
 ⟨Nd.srt_put _ _ f.1,fun p hp hi=>by
  rcases(j7 f.1).1 hp with rfl | ⟨h1,_⟩
  ·rw[zMi hd hd' h]at hi;cases hi
  ·exact f.2 p h1 hi⟩
def zAb:Str:=[111,116,104,101,114]
structure DM (kv:Kvs)(X:List En):Prop where
 f1:gJ 1 kv
 f2:gJ 2 kv
 mem: ∀e:En,e.fine→(wP 1 e∈kv↔e∈X)
 fine: ∀e∈X,e.fine
 ne:X.Pairwise fun a b=>a.n≠b.n
 oth: ∃e0:En,e0.fine∧e0.i=5∧e0.n=zAb∧wP 2 e0∈kv∧ ∀e:En,e.fine→wP 2 e∈kv→e=e0
 key:lookP [102] kv=some [107,101,121]
def vS (nm:Str)(X:List En):Option En:=X.find? fun e=>decide (e.n=nm)
theorem bL {nm:Str}{X:List En}{e:En}(hp:X.Pairwise fun a b=>a.n≠b.n):vS nm X=some e↔e∈X∧e.n=nm:=by
 constructor
 ·intro h
  exact⟨List.mem_of_find?_eq_some h,by simpa using List.find?_some h⟩
 ·rintro⟨hm,hn⟩
  induction X with
  | nil=>cases hm
  | cons a X ih=>
   rw[List.pairwise_cons]at hp
   rcases List.mem_cons.1 hm with rfl | hm
   ·exact List.find?_cons_of_pos (by simp[hn])
   ·rw[vS,List.find?_cons_of_neg (by simp only[zC];rw[← hn];exact hp.1 e hm)]
    exact ih hp.2 hm
theorem bN {nm:Str}{X:List En} :vS nm X=none↔ ∀e∈X,e.n≠nm:=by
 rw[vS,List.find?_eq_none];simp
theorem DM.find {kv:Kvs}{X:List En}(d:DM kv X)(nm:Str):xR 1 nm kv=vS nm X:=by
 cases h:vS nm X with
 | none=>
  rw[bN]at h
  exact(d.f1.find_none (by omega)).2 fun e he hm=>h e ((d.mem e he).1 hm)
 | some e=>
  obtain⟨h1,h2⟩:=(bL d.ne).1 h
  have he:=d.fine e h1
  cases hf:xR 1 nm kv with
  | none=>exact absurd h2 ((d.f1.find_none (by omega)).1 hf e he ((d.mem e he).2 h1))
  | some x=>
   obtain⟨g1,g2,g3⟩:=d.f1.found (by omega) hf
   have:=(bL d.ne).2 ⟨(d.mem x g1).1 g2,g3⟩
   rw[h]at this;exact this.symm
theorem DM.here {kv:Kvs}{X:List En}(d:DM kv X)(nm:Str):bD 1 nm kv=vS nm X:=by
 rw[bD,d.find]
 cases hm:uE nm with
 | true=>rfl
 | false=>
  cases h:vS nm X with
  | none=>rfl
  | some e=>
   obtain⟨h1,h2⟩:=(bL d.ne).1 h
   have:=(d.fine e h1).2.2.2.2.1
   rw[h2,hm]at this;cases this
theorem XC {d:Nat}{a b:En}(ha:a.fine)(hb:b.fine)(h:wP d a=wP d b):a=b:=by
 have:=congrArg zIo h
 rwa[YB ha,YB hb]at this
theorem DM.add {kv:Kvs}{X:List En}(d:DM kv X){nm:Str}{i:Nat}(h:(xW 1 nm ((i:Nat):Int) kv).2.1=0): ∃e:En,e.fine∧e.i=i∧e.n=nm∧vS nm X=none∧xW 1 nm ((i:Nat):Int) kv=(e.c,0,putP (yD 1 e.c) (xI e) kv)∧DM (putP (yD 1 e.c) (xI e) kv) (X++[e]):=by
 obtain⟨e,g1,g2,g3,g4,g5,g6,g7⟩:=XV d.f1 (by omega) h
 rw[d.find]at g5
 have hc:=g1.2.1
 refine⟨e,g1,g2,g3,g5,g7,d.f1.put g1,d.f2.put2 (by omega) (by omega) (by omega),fun x hx=> ?_,fun x hx=> ?_, ?_, ?_, ?_⟩
 ·rw[j7 d.f1.1,qD,List.mem_singleton, ← d.mem x hx]
  constructor
  ·rintro(h | ⟨h,_⟩)
   ·exact .inr (XC hx g1 h)
   ·exact .inl h
  ·rintro(h | rfl)
   ·exact .inr ⟨h,g6 _ h⟩
   ·exact .inl rfl
 ·rcases List.mem_append.1 hx with hx | hx
  ·exact d.fine x hx
  ·rw[List.mem_singleton.1 hx];exact g1
 ·rw[List.pairwise_append]
  refine⟨d.ne,by simp,fun a ha b hb=> ?_⟩
  rw[List.mem_singleton.1 hb,g3]
  exact bN.1 g5 a ha
 ·obtain⟨e0,o1,o2,o3,o4,o5⟩:=d.oth
  refine⟨e0,o1,o2,o3,(j7 d.f1.1).2 (.inr ⟨o4,fun e'=> ?_⟩),fun x hx hm=> ?_⟩
  ·have:=(bC (by omega) (by omega) (by have:=o1.2.1;omega) (by omega) e').1;omega
  ·rcases(j7 d.f1.1).1 hm with h | ⟨h,_⟩
   ·have:=(bC (by omega) (by omega) (by have:=hx.2.1;omega) (by omega) (congrArg Prod.fst h)).1;omega
   ·exact o5 x hx h
 ·rw[Nd.look_put,if_neg (fun h=>by have:=congrArg List.length h;rw[wI]at this;simp at this)];exact d.key
theorem DM.del {kv:Kvs}{X:List En}(d:DM kv X){nm:Str}{e:En}(h:vS nm X=some e):DM (delP (yD 1 e.c) kv) (X.filter fun a=>decide (a.n≠nm)):=by
 obtain⟨h1,h2⟩:=(bL d.ne).1 h
 have he:=d.fine e h1
 have hc:=he.2.1
 refine⟨d.f1.del _,d.f2.del _,fun x hx=> ?_,fun x hx=>d.fine x (List.mem_filter.1 hx).1,d.ne.filter _, ?_, ?_⟩
 ·rw[vY d.f1.1,List.mem_filter,d.mem x hx]
  simp only[zC]
  refine and_congr_right fun hm=> ?_
  constructor
  ·intro hk hn
   have:=(bL d.ne).2 ⟨hm,hn⟩
   rw[h]at this
   injection this with this
   exact hk (by rw[this];rfl)
  ·intro hn hk
   have h3:=(bC (by omega) (by omega) (by have:=hx.2.1;omega) (by omega) hk).2
   have h4:wP 1 x∈kv:=(d.mem x hx).2 hm
   have h5:wP 1 e∈kv:=(d.mem e he).2 h1
   have h6:lookP (yD 1 e.c) kv=some (xI e):=(ZL d.f1.1).2 h5
   have h7:lookP (yD 1 e.c) kv=some (xI x):=(ZL d.f1.1).2 (by rw[← h3];exact h4)
   rw[h6]at h7
   have h8:wP 1 x=wP 1 e:=by rw[wP,wP,h3];rw[Option.some.inj h7]
   have:=XC hx he h8
   exact hn (by rw[this];exact h2)
 ·obtain⟨e0,o1,o2,o3,o4,o5⟩:=d.oth
  refine⟨e0,o1,o2,o3,(vY d.f1.1).2 ⟨o4,fun e'=> ?_⟩,fun x hx hm=>o5 x hx (Nd.mem_del hm)⟩
  have:=(bC (by omega) (by omega) (by have:=o1.2.1;omega) (by omega) e').1;omega
 ·rw[Nd.look_del _ _ d.f1.1,if_neg (fun h=>by have:=congrArg List.length h;rw[wI]at this;simp at this)];exact d.key
theorem zLX {d:Nat} : ∀ {l:List En},(∀e∈l,e.fine)→Srt (l.map (wP d))→l.Pairwise fun a b=>a.c<b.c
 | [],_,_=> .nil
 | e::l,hf,hs=>by
  rw[List.map_cons]at hs
  refine List.pairwise_cons.2 ⟨fun x hx=> ?_,zLX (fun y hy=>hf y (z8 _ hy)) hs.2⟩
  have h1:=hs.1 (wP d x) (List.mem_map_of_mem hx)
  have h2:=(hf e (zA ..)).2.1
  have h3:=(hf x (z8 _ hx)).2.1
  have h4:ltS (yD d e.c) (yD d x.c)=true:=h1
  rw[aJ d (by omega) (by omega)]at h4
  exact of_decide_eq_true h4
theorem gJ.sorted {d b:Nat}{kv:Kvs}(f:gJ d kv)(hd:d<2147483648)(hb:b≤262144):(liE d b kv).Pairwise fun a b=>a.c<b.c:=by
 obtain⟨h1,h2,_⟩:=f.list hd hb
 refine zLX (d:=d) (fun e he=>(h2 e he).1) ?_
 rw[← h1]
 exact Bt.srt_sub List.filter_sublist f.1
theorem JC: ∀ {a b:List En},(a.Pairwise fun x y=>x.c<y.c)→(b.Pairwise fun x y=>x.c<y.c)→(∀e,e∈a↔e∈b)→a=b
 | [],[],_,_,_=>rfl
 | [],y::b,_,_,h=>by have:=(h y).2 (zA ..);cases this
 | x::a,[],_,_,h=>by have:=(h x).1 (zA ..);cases this
 | x::a,y::b,ha,hb,h=>by
  rw[List.pairwise_cons]at ha hb
  have hxy:x=y:=by
   rcases List.mem_cons.1 ((h x).1 (zA ..))with e | e
   ·exact e
   ·rcases List.mem_cons.1 ((h y).2 (zA ..))with e' | e'
    ·exact e'.symm
    ·have:=hb.1 x e;have:=ha.1 y e';omega
  subst hxy
  rw[JC ha.2 hb.2 fun e=> ?_]
  constructor
  ·intro he
   rcases List.mem_cons.1 ((h e).1 (z8 _ he))with rfl | e'
   ·have:=ha.1 e he;omega
   ·exact e'
  ·intro he
   rcases List.mem_cons.1 ((h e).2 (z8 _ he))with rfl | e'
   ·have:=hb.1 e he;omega
   ·exact e'
theorem JR: ∀ {R:List En},(R.Pairwise fun a b=>a.c<b.c)→ ∀(j:Nat) (h:j<R.length) (x:En),x∈R.drop (j+1)↔x∈R∧R[j].c<x.c
 | a::R,hp,0,_,x=>by
  rw[List.pairwise_cons]at hp
  rw[List.drop_succ_cons,List.drop_zero,List.mem_cons]
  constructor
  ·intro h;exact⟨.inr h,hp.1 x h⟩
  ·rintro⟨rfl | h,h2⟩
   ·exact absurd h2 (by simp)
   ·exact h
 | a::R,hp,j+1,h,x=>by
  rw[List.pairwise_cons]at hp
  have hj:j<R.length:=by simpa using h
  rw[List.drop_succ_cons,JR hp.2 j hj x,List.mem_cons]
  simp only[List.getElem_cons_succ]
  constructor
  ·rintro⟨h1,h2⟩;exact⟨.inr h1,h2⟩
  ·rintro⟨rfl | h1,h2⟩
   ·have:=hp.1 R[j] (zQ hj);omega
   ·exact⟨h1,h2⟩
theorem gJ.behind {d b:Nat}{kv:Kvs}(f:gJ d kv)(hd:d<2147483648)(hb:b≤262144)(j:Nat)(h:j< (liE d b kv).length):liE d (liE d b kv)[j].c kv=(liE d b kv).drop (j+1):=by
 obtain⟨_,h2,h3⟩:=f.list hd hb
 have hj:=h2 _ (zQ h)
 have hc:=hj.1.2.1
 obtain⟨_,g2,g3⟩:=f.list hd hc
 have hs:=f.sorted hd hb
 refine JC (f.sorted hd hc) (List.Pairwise.sublist (List.drop_sublist _ _) hs) fun e=> ?_
 rw[JR hs j h e]
 constructor
 ·intro he
  have hf:=(g2 e he).1
  obtain⟨q1,q2⟩:=(g3 e hf).1 he
  exact⟨(h3 e hf).2 ⟨q1,by omega⟩,q2⟩
 ·rintro⟨q1,q2⟩
  have hf:=(h2 e q1).1
  exact(g3 e hf).2 ⟨((h3 e hf).1 q1).1,q2⟩
theorem DM.listed {kv:Kvs}{X:List En}(d:DM kv X):(∀e,e∈liE 1 0 kv↔e∈X)∧(liE 1 0 kv).length=X.length:=by
 obtain⟨_,h2,h3⟩:=d.f1.list (d:=1) (b:=0) (by omega) (by omega)
 have hm: ∀e,e∈liE 1 0 kv↔e∈X:=fun e=>by
  constructor
  ·intro he
   have hf:=(h2 e he).1
   exact(d.mem e hf).1 ((h3 e hf).1 he).1
  ·intro he
   have hf:=d.fine e he
   exact(h3 e hf).2 ⟨(d.mem e hf).2 he,by have:=hf.1;omega⟩
 refine⟨hm, ?_⟩
 have n1:(liE 1 0 kv).Nodup:=(d.f1.sorted (by omega) (by omega)).imp fun {a b} h e=>by rw[e]at h;omega
 have n2:X.Nodup:=d.ne.imp fun {a b} h e=>h (by rw[e])
 exact((List.perm_ext_iff_of_nodup n1 n2).2 hm).length_eq
end Go.Di
namespace Go.Eng
open Go.Nd (Str)
open Go.Di
theorem zGM (l m:Str):aveq (S l) (S m)=decide (l=m):=by
 show(Nat.beq l.length m.length&&Nat.beq (pack l) (pack m))=_
 rw[S_eq]
def vZ (g:En→AV)(X:List En):List (AV×AV):=X.map fun e=>(S e.n,g e)
theorem UM (g:En→AV)(k:Str): ∀X:List En,xZ (S k) (vZ g X)=(vS k X).map g
 | []=>rfl
 | a::X=>by
  have ih:=UM g k X
  simp only[vZ,List.map_cons,xZ,zGM]at ih⊢
  by_cases h:a.n=k
  ·rw[vS,List.find?_cons_of_pos (by simp[h])]
   simp[h]
  ·rw[vS,List.find?_cons_of_neg (by simp[h]),ih]
   have: ¬k=a.n:=fun e=>h e.symm
   simp[h,this,vS]
theorem zBo (g:En→AV)(k:Str)(v:AV): ∀X:List En,vS k X=none→zCO (S k) v (vZ g X)=none
 | [],_=>rfl
 | a::X,hn=>by
  have hh:=bN.1 hn
  have ih:=zBo g k v X (bN.2 fun e he=>hh e (z8 _ he))
  have h1:=hh a (zA ..)
  have h2: ¬k=a.n:=fun e=>h1 e.symm
  simp only[vZ,List.map_cons,zCO,zGM]at ih⊢
  rw[ih]
  simp[h1,h2]
theorem XH (g:En→AV)(k:Str): ∀X:List En,(X.Pairwise fun a b=>a.n≠b.n)→zDa (S k) (vZ g X)=if(vS k X).isSome then some (vZ g (X.filter fun a=>decide (a.n≠k)))else none
 | [],_=>rfl
 | a::X,hp=>by
  rw[List.pairwise_cons]at hp
  have ih:=XH g k X hp.2
  simp only[vZ,List.map_cons,zDa,zGM]at ih⊢
  by_cases h:a.n=k
  ·have hf:X.filter (fun a=>decide (a.n≠k))=X:=List.filter_eq_self.2 fun x hx=>by
    simp only[zC];rw[← h];exact fun e=>hp.1 x hx e.symm
   rw[vS,List.find?_cons_of_pos (by simp[h]),List.filter_cons_of_neg (by simp[h]),hf]
   simp[h]
  ·have h2: ¬k=a.n:=fun e=>h e.symm
   rw[vS,List.find?_cons_of_neg (by simp[h]),List.filter_cons_of_pos (by simp[h]),ih]
   show _=if(vS k X).isSome=true then _ else _
   cases hs:(vS k X).isSome<;>simp[h,h2,hs]
theorem zHW (k:Str):keyOk [2] (S k)=true:=rfl
theorem aH {H:AH}{M:Nat}{g:En→AV}{X:List En}(h:H.h.get M=some (.map [2] (vZ g X)))(z:AV)(c:Bool)(k:Str):lkM [2] z c (.map M) (S k) H=some (lkR (vS k X).isSome c (((vS k X).map g).getD z)):=by
 simp only[lkM,zHW,h,UM,show Z7 [2] [2]=true from rfl,cond_true]
 cases vS k X<;>rfl
theorem zDC {H:AH}{M:Nat}{g:En→AV}{X:List En}(h:H.h.get M=some (.map [2] (vZ g X)))(e:En)(hn:vS e.n X=none):upM [2] (.map M) (S e.n) (g e) H=some (qM,H.put M (.map [2] (vZ g (X++[e])))):=by
 simp only[upM,zHW,h,zBo g e.n _ X hn,show Z7 [2] [2]=true from rfl,cond_true,j6]
 simp only[vZ,List.map_append,List.map_cons,List.map_nil]
theorem zGp {H:AH}{M:Nat}{g:En→AV}{X:List En}(h:H.h.get M=some (.map [2] (vZ g X)))(hk:H.ok)(hp:X.Pairwise fun a b=>a.n≠b.n)(k:Str): ∃H',dlM [2] (.map M) (S k) H=some (.tuple [],H')∧H'.h.get M=some (.map [2] (vZ g (X.filter fun a=>decide (a.n≠k))))∧Stp (fun B=>B=M) H H':=by
 cases hs:(vS k X).isSome with
 | true=>
  refine⟨H.put M (.map [2] (vZ g (X.filter fun a=>decide (a.n≠k)))), ?_,by rw[AH.put_get,if_pos rfl],(Stp.refl hk).put (hk.lt h) _ (.inr rfl)⟩
  simp only[dlM,zHW,h,XH g k X hp,hs,if_true,show Z7 [2] [2]=true from rfl,cond_true,j6]
 | false=>
  have hf:X.filter (fun a=>decide (a.n≠k))=X:=List.filter_eq_self.2 fun x hx=>by
   simp only[zC]
   have hno:vS k X=none:=by cases hw:vS k X with
    | none=>rfl
    | some _=>rw[hw]at hs;cases hs
   exact bN.1 hno x hx
  refine⟨H, ?_,by rw[hf];exact h,Stp.refl hk⟩
  simp only[dlM,zHW,h,XH g k X hp,hs,Bool.false_eq_true,if_false,show Z7 [2] [2]=true from rfl,cond_true]
theorem zKv {H:AH}{M:Nat}{g:En→AV}{X:List En}(h:H.h.get M=some (.map [2] (vZ g X))):ZG (.map M) H=some (.int .i64 ((X.length:Nat):Int)):=by
 simp only[ZG,h,yC,vZ,zY];rfl
end Go.Eng
namespace Go.Eng.Sh
open Go.Nd (Ptr yI qP Kvs Srt)
open Go.Bt Go.Dr Go.Di
theorem jE.map {H H':AH}{At M L K:Nat}{kv:Kvs}{es:List (AV×AV)}(t:jE H At M L kv)(g:H.h.get K=some (.map [2] es))(s:Stp (fun B=>B=K) H H'):jE H' At M L kv:=by
 obtain⟨d,c,_,root,es',q,last,rfl,hc,ti,h2⟩:=t
 refine⟨d,c,_,root,es',q,last,rfl,hc,ti.stp s (fun e=> ?_) (fun e=> ?_) (fun z hz B hB e=> ?_),h2⟩
 ·have:=ti.gT;rw[e,g]at this;cases this
 ·have:=ti.gM;rw[e,g]at this;cases this
 ·obtain⟨nd,hn⟩:=ti.pq.mem z hz
  subst e
  exact hn.nblk g (.inr (.inl ⟨_,_,rfl⟩)) hB
structure Ac where
 k:Int
 d:Int
 i:Int
 n:Int
 s:Str
def acV (a:Ac):List AV:=[.int .u8 a.k, .int .i64 a.d, .int .i64 a.i, .int .i64 a.n,S a.s]
def AcR (H:AH)(v:AV)(l:List Ac):Prop:=Rw 5 H v l.length (l.flatMap acV)
theorem AcR.at {H:AH}{v:AV}{l:List Ac}(h:AcR H v l){i:Nat}(hi:i<l.length): ∃A o,(∀κ (z:Int),z=(i:Int)→jP 5 v (.int κ z)=some (.ptr A o))∧Eng.ldN 5 (.ptr A o) H=some (.agg (acV l[i]))∧Eng.ld1 (.ptr A (o+4)) H=some (S l[i].s):=by
 obtain⟨A,o,c,e,sz,g,h1,h2,h3,h4,h5⟩:=Rw.at h hi
 rw[zBW acV 5 (fun _=>rfl) l i hi]at h5
 have g4:c[o+4]? =some (S l[i].s):=by
  have:=congrArg (fun x=>x[4]?) h5
  simpa[acV]using this
 exact⟨A,o,h1,by rw[WM h2 h4,h5],fO h2 g4⟩
theorem zIi (D:Dyn)(n:Nat)(hn:200≤n){H:AH}{v:AV}{l:List Ac}(hv:AcR H v l): ∃b,f48 D n [v] H=some (.bool b,H)∧(b=false→l.length≤100∧ ∀a∈l,a.s.length≤1000):=by
 have hln:lnSl v=some (.int .i64 ((l.length:Nat):Int)):=hv.lnSl
 by_cases h100:100<l.length
 ·have hI:((100:Nat):Int)< ((l.length:Nat):Int):=by omega
  refine⟨true, ?_,fun h=>by cases h⟩
  simp(maxSteps:=999999)(disch:=omega) only[f48,eZ,hln,hI]
 ·have hI: ¬((100:Nat):Int)< ((l.length:Nat):Int):=by omega
  have lp: ∀(rr i kf:Nat),i+rr=l.length→rr<kf→ ∃b,jb 0 (qV kf (zAK D n) [v, .int .i64 ((i:Nat):Int)] H) (zKP D n)=some (.ret (.bool b),H)∧(b=false→ ∀a∈l.drop i,a.s.length≤1000):=by
   intro rr
   induction rr with
   | zero=>
    intro i kf he hk
    obtain⟨k,rfl⟩: ∃k,kf=k+1:=⟨kf - 1,by omega⟩
    have hge: ¬((i:Nat):Int)< ((l.length:Nat):Int):=by omega
    refine⟨false, ?_,fun _ a ha=>by rw[zP (by omega)]at ha;cases ha⟩
    rw[yB (i:=0) (vs':=[]) (H':=H) (by simp(maxSteps:=999999)(disch:=omega) only[zAK,eZ,hln,hge])]
    simp(maxSteps:=999999)(disch:=omega) only[jb,Nat.beq_refl,cond_true,zKP,eZ]
   | succ rr ih=>
    intro i kf he hk
    obtain⟨k,rfl⟩: ∃k,kf=k+1:=⟨kf - 1,by omega⟩
    have hi:i<l.length:=by omega
    have hiI:((i:Nat):Int)< ((l.length:Nat):Int):=by omega
    have hi1:((i:Nat):Int)+((1:Nat):Int)=((i+1:Nat):Int):=by omega
    obtain⟨A,o,i1,_,i4⟩:=hv.at hi
    by_cases hb:1000<l[i].s.length
    ·have hbI:((1000:Nat):Int)< ((l[i].s.length:Nat):Int):=by omega
     refine⟨true, ?_,fun h=>by cases h⟩
     have body:zAK D n [v, .int .i64 ((i:Nat):Int)] H=some (.ret (.bool true),H):=by
      simp(maxSteps:=999999)(disch:=omega) only[zAK,eZ,hln,hiI,i1,i4,wO,hbI]
     rw[dP body]
     rfl
    ·have hbI: ¬((1000:Nat):Int)< ((l[i].s.length:Nat):Int):=by omega
     obtain⟨b,e,h⟩:=ih (i+1) k (by omega) (by omega)
     refine⟨b, ?_,fun hb' a ha=> ?_⟩
     ·have body:zAK D n [v, .int .i64 ((i:Nat):Int)] H=some (.norm [v, .int .i64 ((i+1:Nat):Int)],H):=by
       simp(maxSteps:=999999)(disch:=omega) only[zAK,eZ,hln,hiI,i1,i4,wO,hbI,hi1]
      rw[wL body,e]
     ·rw[zL hi]at ha
      rcases List.mem_cons.1 ha with rfl | ha
      ·omega
      ·exact h hb' a ha
  obtain⟨b,e,h⟩:=lp l.length 0 n (by omega) (by omega)
  refine⟨b, ?_,fun hb=>⟨by omega,h hb⟩⟩
  simp(maxSteps:=999999)(disch:=omega) only[f48,eZ,hln,hI,e]
def gI (e:En):AV:= .int .i64 ((e.i:Nat):Int)
def gC (e:En):AV:= .int .i64 ((e.c:Nat):Int)
structure MI (Hi H:AH)(At M Mm Mc L i:Nat)(X:List En):Prop where
 prs:Prs Hi H
 lo:Hi.next≤At∧Hi.next≤M∧Hi.next≤Mm∧Hi.next≤Mc
 ne:Mm≠At∧Mm≠M∧Mc≠At∧Mc≠M∧Mm≠Mc
 gm:H.h.get Mm=some (.map [2] (vZ gI X))
 gc:H.h.get Mc=some (.map [2] (vZ gC X))
 tr: ∃kv,jE H At M L kv∧DM kv X∧kv.length≤2+i
 few:X.length≤i
theorem MI.fresh {Hi H H':AH}{At M Mm Mc L i:Nat}{X:List En}(h:MI Hi H At M Mm Mc L i X)(s:Prs H H'):MI Hi H' At M Mm Mc L i X:=by
 obtain⟨kv,t,d,hl⟩:=h.tr
 exact⟨h.prs.trans s,h.lo,h.ne,Prs.get s h.prs.ok h.gm,Prs.get s h.prs.ok h.gc,⟨kv,t.prs s,d,hl⟩,h.few⟩
theorem MI.more {Hi H:AH}{At M Mm Mc L L' i i':Nat}{X:List En}(h:MI Hi H At M Mm Mc L i X)(hL:L≤L')(hi:i≤i'):MI Hi H At M Mm Mc L' i' X:=by
 obtain⟨kv,t,d,hl⟩:=h.tr
 exact⟨h.prs,h.lo,h.ne,h.gm,h.gc,⟨kv,t.up hL,d,by omega⟩,by have:=h.few;omega⟩
theorem zD5 {d:Nat}{nm:Str}{kv:Kvs}{e:En}(h:bD d nm kv=some e):aK d nm kv=[.int .i64 ((e.i:Nat):Int), .int .i64 ((e.c:Nat):Int), .int .i64 ((0:Nat):Int)]:=by
 cases hm:uE nm with
 | false=>simp only[bD,hm,cond_false]at h;cases h
 | true=>simp only[bD,hm,cond_true]at h;simp only[aK,hm,cond_true,h]
theorem zD6 {d:Nat}{nm:Str}{kv:Kvs}(h:bD d nm kv=none): ∃x:Nat,x≠0∧aK d nm kv=[.int .i64 ((0:Nat):Int), .int .i64 ((0:Nat):Int), .int .i64 ((x:Nat):Int)]:=by
 cases hm:uE nm with
 | false=>exact⟨56,by omega,by simp only[aK,hm,cond_false]⟩
 | true=>
  simp only[bD,hm,cond_true]at h
  exact⟨5,by omega,by simp only[aK,hm,cond_true,h]⟩
theorem XE (m:Nat)(hm:700000000≤m){Hi H:AH}{At M Mm Mc L i j A11:Nat}{X:List En}{a:Ac}{x0 x1:AV}(h:MI Hi H At M Mm Mc L i X)(hL:L≤500000)(hi:i≤1000)(hj:j≤1000)(hs:a.s.length≤1000)(g11:H.h.get A11=some (.cells (acV a) 105 1 false)):
  ∃H',zCc (dy (m+1)) (m+1) [x0,x1, .ptr At 0, .map Mm, .map Mc, .int .i64 ((j:Nat):Int), .ptr A11 0] H=some (.norm [x0,x1, .ptr At 0, .map Mm, .map Mc, .int .i64 ((j+1:Nat):Int)],H')∧Prs H H':=by
 obtain⟨kv,t,d,hl⟩:=h.tr
 obtain⟨H1,e1,p1⟩:=zCh m hm (nm:=a.s) t (by omega) (by omega) d.f1 (d:=1) (by omega) (by omega) (by omega)
 refine⟨H1, ?_,p1⟩
 have r0:ld1 (.ptr A11 4) H=some (S a.s):=by rw[qL g11];rfl
 have r1:ld1 (.ptr A11 4) H1=some (S a.s):=by rw[qL (Prs.get p1 h.prs.ok g11)];rfl
 have k1:=aH (Prs.get p1 h.prs.ok h.gm) (.int .i64 ((0:Nat):Int)) true a.s
 have k2:=aH (Prs.get p1 h.prs.ok h.gc) (.int .i64 ((0:Nat):Int)) false a.s
 have hi1:((j:Nat):Int)+((1:Nat):Int)=((j+1:Nat):Int):=by omega
 have hh:=d.here a.s
 cases hw:vS a.s X with
 | some e=>
  rw[hw]at hh k1 k2
  rw[zD5 hh]at e1
  simp only[qH,Option.map_some,Option.getD_some,lkR,cond_true,cond_false,gI,gC]at k1 k2
  have t00:((0:Nat):Int)=((0:Nat):Int):=rfl
  have ti: ¬(((e.i:Nat):Int)≠((e.i:Nat):Int)):=by omega
  have tc: ¬(((e.c:Nat):Int)≠((e.c:Nat):Int)):=by omega
  simp(maxSteps:=999999)(disch:=omega) only[zCc,eZ,r0,e1,qK,nth,r1,k1,k2,beq_self_eq_true,Bool.not_true,Bool.false_eq_true,if_false,ti,tc,hi1]
 | none=>
  rw[hw]at hh k1 k2
  obtain⟨x,hx,hfv⟩:=zD6 hh
  rw[hfv]at e1
  simp only[Option.isSome_none,Option.map_none,Option.getD_none,lkR,cond_true,cond_false]at k1 k2
  have tx: ¬((x:Nat):Int)=((0:Nat):Int):=by omega
  have tz: ¬(((0:Nat):Int)≠((0:Nat):Int)):=by omega
  simp(maxSteps:=999999)(disch:=omega) only[zCc,eZ,r0,e1,qK,nth,r1,k1,k2,tx,decide_false,beq_self_eq_true,Bool.not_true,Bool.false_eq_true,if_false,tz,hi1]
theorem zFo {nm:Str}{X:List En}(h:vS nm X=none):X.filter (fun a=>decide (a.n≠nm))=X:=List.filter_eq_self.2 fun x hx=>by
 simp only[zC];exact bN.1 h x hx
theorem zL7 (m:Nat)(hm:700000000≤m){Hi H:AH}{At M Mm Mc L i A11:Nat}{X:List En}{a:Ac}{x0 x1:AV}(h:MI Hi H At M Mm Mc L i X)(hL:L≤400000)(hi:i≤1000)(hs:a.s.length≤1000)(g11:H.h.get A11=some (.cells (acV a) 105 1 false))(hk:a.k=1)(h11:A11≠At∧A11≠M∧A11≠Mm∧A11≠Mc):
  ∃H' X',Z3 (dy (m+1)) (m+1) [x0,x1, .ptr At 0, .map Mm, .map Mc, .int .i64 ((i:Nat):Int), .ptr A11 0, .bool (vS a.s X).isSome] H=some (.norm [x0,x1, .ptr At 0, .map Mm, .map Mc, .int .i64 ((i+1:Nat):Int)],H')∧MI Hi H' At M Mm Mc (L+200) i X':=by
 obtain⟨kv,t,d,hl⟩:=h.tr
 obtain⟨l1,l2,l3,l4⟩:=h.lo
 obtain⟨n1,n2,n3,n4,n5⟩:=h.ne
 have lt:=t.lt
 have lm:=h.prs.ok.lt h.gm;have lc:=h.prs.ok.lt h.gc;have l11:=h.prs.ok.lt g11
 obtain⟨H1,e1,t1,s1⟩:=zIp m hm (nm:=a.s) t (by omega) (by omega) d.f1 (d:=1) (by omega) (by omega) (by omega)
 have N1:=s1.next
 have P1:Prs Hi H1:=h.prs.fresh s1 fun B hB=>by omega
 have gm1:H1.h.get Mm=some (.map [2] (vZ gI X)):=by rw[s1.keep _ lm (by omega)];exact h.gm
 have gc1:H1.h.get Mc=some (.map [2] (vZ gC X)):=by rw[s1.keep _ lc (by omega)];exact h.gc
 have g1:H1.h.get A11=some (.cells (acV a) 105 1 false):=by rw[s1.keep _ l11 (by omega)];exact g11
 obtain⟨H2,e2,g2,s2⟩:=zGp gm1 s1.ok d.ne a.s
 have N2:=s2.next
 have gc2:H2.h.get Mc=some (.map [2] (vZ gC X)):=by rw[s2.keep _ (by omega) (by omega)];exact gc1
 have g12:H2.h.get A11=some (.cells (acV a) 105 1 false):=by rw[s2.keep _ (by omega) (by omega)];exact g1
 obtain⟨H3,e3,g3,s3⟩:=zGp gc2 s2.ok d.ne a.s
 have N3:=s3.next
 have gm3:H3.h.get Mm=some (.map [2] (vZ gI (X.filter fun e=>decide (e.n≠a.s)))):=by rw[s3.keep _ (by omega) (by omega)];exact g2
 have g13:H3.h.get A11=some (.cells (acV a) 105 1 false):=by rw[s3.keep _ (by omega) (by omega)];exact g12
 have t3:jE H3 At M (L+200) (Y9 1 a.s kv):=(t1.map gm1 s2).map gc2 s3
 have P3:Prs Hi H3:=(P1.fresh s2 fun B hB=>by omega).fresh s3 fun B hB=>by omega
 have hh:=d.here a.s
 have hdm:DM (Y9 1 a.s kv) (X.filter fun e=>decide (e.n≠a.s))∧(Y9 1 a.s kv).length≤2+i:=by
  cases hw:vS a.s X with
  | none=>
   rw[hw]at hh
   rw[zFo hw]
   have:Y9 1 a.s kv=kv:=by simp only[Y9,hh]
   rw[this];exact⟨d,hl⟩
  | some e=>
   rw[hw]at hh
   have:Y9 1 a.s kv=Nd.delP (yD 1 e.c) kv:=by simp only[Y9,hh]
   rw[this]
   refine⟨d.del hw, ?_⟩
   have:=Nd.len_del (yD 1 e.c) kv
   rw[this];split<;>omega
 have I3:MI Hi H3 At M Mm Mc (L+200) i (X.filter fun e=>decide (e.n≠a.s)):=⟨P3,⟨l1,l2,l3,l4⟩,⟨n1,n2,n3,n4,n5⟩,gm3,g3,⟨_,t3,hdm⟩,Nat.le_trans (List.length_filter_le _ _) h.few⟩
 obtain⟨H4,e4,p4⟩:=XE m hm (x0:=x0) (x1:=x1) (j:=i) I3 (by omega) hi hi hs g13
 refine⟨H4,_, ?_,I3.fresh p4⟩
 have r0:ld1 (.ptr A11 0) H=some (.int .u8 a.k):=by rw[qL g11];rfl
 have r4:ld1 (.ptr A11 4) H=some (S a.s):=by rw[qL g11];rfl
 have r41:ld1 (.ptr A11 4) H1=some (S a.s):=by rw[qL g1];rfl
 have r42:ld1 (.ptr A11 4) H2=some (S a.s):=by rw[qL g12];rfl
 have k1:=aH gm1 (.int .i64 ((0:Nat):Int)) false a.s
 have hkI:a.k=((1:Nat):Int):=hk
 cases hw:vS a.s X with
 | none=>
  rw[hw]at hh k1
  simp only[Option.isSome_none]
  have hv:zAU 1 a.s kv=[.int .i64 ((0:Nat):Int), .int .i64 ((bif uE a.s then 5 else 56:Nat):Int)]:=by simp only[zAU,hh]
  rw[hv]at e1
  have tx: ¬((bif uE a.s then 5 else 56:Nat):Int)=((0:Nat):Int):=by cases uE a.s<;>simp
  simp(maxSteps:=999999)(disch:=omega) only[Z3,eZ,r0,hkI,r4,e1,qK,nth,tx,decide_false,beq_self_eq_true,Bool.not_true,Bool.false_eq_true,if_false,r41,e2,r42,e3,e4]
 | some e=>
  rw[hw]at hh k1
  simp only[qH,Option.map_some,Option.getD_some,lkR,cond_false,gI]at k1⊢
  have hv:zAU 1 a.s kv=[.int .i64 ((e.i:Nat):Int), .int .i64 ((0:Nat):Int)]:=by simp only[zAU,hh]
  rw[hv]at e1
  have ti: ¬(((e.i:Nat):Int)≠((e.i:Nat):Int)):=by omega
  simp(maxSteps:=999999)(disch:=omega) only[Z3,eZ,r0,hkI,r4,e1,qK,nth,decide_true,beq_self_eq_true,Bool.not_true,Bool.false_eq_true,if_false,r41,k1,ti,e2,r42,e3,e4]
theorem zGo (m:Nat)(hm:700000000≤m){Hi H:AH}{At M Mm Mc L i A11:Nat}{X:List En}{a:Ac}{x0 x1 x13:AV}(h:MI Hi H At M Mm Mc L i X)(hL:L≤400000)(hi:i≤1000)(hs:a.s.length≤1000)(g11:H.h.get A11=some (.cells (acV a) 105 1 false))(hk:a.k≠1):
  ∃H',Z3 (dy (m+1)) (m+1) [x0,x1, .ptr At 0, .map Mm, .map Mc, .int .i64 ((i:Nat):Int), .ptr A11 0,x13] H=some (.norm [x0,x1, .ptr At 0, .map Mm, .map Mc, .int .i64 ((i+1:Nat):Int)],H')∧MI Hi H' At M Mm Mc L i X:=by
 obtain⟨H4,e4,p4⟩:=XE m hm (x0:=x0) (x1:=x1) (j:=i) h (by omega) hi hi hs g11
 refine⟨H4, ?_,h.fresh p4⟩
 have r0:ld1 (.ptr A11 0) H=some (.int .u8 a.k):=by rw[qL g11];rfl
 have hkI: ¬a.k=((1:Nat):Int):=hk
 simp(maxSteps:=999999)(disch:=omega) only[Z3,eZ,r0,hkI,e4]
theorem zIP {nm:Str}{ino:Int}{kv:Kvs}{X:List En}(d:DM kv X)(h:(xW 1 nm ino kv).2.1≠0)(hi:1≤ino∧ino≤2147483647):(xW 1 nm ino kv).2.1=6↔(vS nm X).isSome=true:=by
 have hh:=d.here nm
 cases hm:uE nm with
 | false=>
  have:xW 1 nm ino kv=(0,56,kv):=by rw[xW,if_pos hi,if_neg (by rw[hm];decide)]
  rw[this]
  simp only[bD,hm,cond_false]at hh
  rw[← hh];simp
 | true=>
  simp only[bD,hm,cond_true]at hh
  cases hw:vS nm X with
  | some e=>
   have:xW 1 nm ino kv=(0,6,kv):=by rw[xW,if_pos hi,if_pos hm,if_pos (by rw[hh,hw];rfl)]
   rw[this];simp
  | none=>
   cases hp:dK (chE 1 (yZ nm) kv)with
   | none=>
    have:xW 1 nm ino kv=(0,3,kv):=by rw[xW,if_pos hi,if_pos hm,if_neg (by rw[hh,hw];decide),hp]
    rw[this];simp
   | some p=>rw[xW,if_pos hi,if_pos hm,if_neg (by rw[hh,hw];decide),hp]at h;exact absurd rfl h
theorem zL5 (m:Nat)(hm:700000000≤m){Hi H:AH}{At M Mm Mc L i:Nat}{X:List En}{l:List Ac}{x0 x1:AV}(hx0:AcR Hi x0 l)(hl100:l.length≤100)(hsl: ∀a∈l,a.s.length≤1000)(h:MI Hi H At M Mm Mc L i X)(hL:L≤300000)(hi:i<l.length):
  ∃H' X',uG (dy (m+1)) (m+1) [x0,x1, .ptr At 0, .map Mm, .map Mc, .int .i64 ((i:Nat):Int)] H=some (.norm [x0,x1, .ptr At 0, .map Mm, .map Mc, .int .i64 ((i+1:Nat):Int)],H')∧MI Hi H' At M Mm Mc (L+200) (i+1) X':=by
 have hx:AcR H x0 l:=Rw.stp hx0 h.prs fun _ _ x=>x
 obtain⟨A',o,i1,i2,i3⟩:=hx.at hi
 obtain⟨a,ha⟩: ∃a,a=l[i]:=⟨_,rfl⟩
 have has:=hsl _ (zQ hi)
 rw[← ha]at i2 has
 have hk:=h.prs.ok
 have lm:=hk.lt h.gm;have lc:=hk.lt h.gc
 obtain⟨kv0,t0,d0,hl0⟩:=h.tr
 have lt:=t0.lt
 obtain⟨H1,A11,b1,p1,g1,m1,n1⟩:=box hk (.cells [.int .u8 ((0:Nat):Int), .int .i64 ((0:Nat):Int), .int .i64 ((0:Nat):Int), .int .i64 ((0:Nat):Int),S []] 105 1 false)
 obtain⟨H2,e2,g2,s2,n2⟩:=qW p1.ok g1 (l':=acV a) rfl rfl
 have e2':stN 5 (.ptr A11 0) (.agg (acV a)) H1=some (qM,H2):=e2
 have P2:Prs H H2:=p1.fresh s2 fun B hB=>by omega
 have N1:=p1.next;have N2:=s2.next
 have h2:=h.fresh P2
 have i2':ldN 5 (.ptr A' o) H=some (.agg (acV a)):=i2
 have hS:(AV.str 0 0)=S []:=rfl
 have hln:lnSl x0=some (.int .i64 ((l.length:Nat):Int)):=hx.lnSl
 have hiI:((i:Nat):Int)< ((l.length:Nat):Int):=by omega
 have r4:ld1 (.ptr A11 4) H2=some (S a.s):=by rw[qL g2];rfl
 have r0:ld1 (.ptr A11 0) H2=some (.int .u8 a.k):=by rw[qL g2];rfl
 have r2:ld1 (.ptr A11 2) H2=some (.int .i64 a.i):=by rw[qL g2];rfl
 have k1:=aH h2.gm (.int .i64 ((0:Nat):Int)) true a.s
 simp only[lkR,cond_true]at k1
 have nE:A11≠At∧A11≠M∧A11≠Mm∧A11≠Mc:=⟨by omega,by omega,by omega,by omega⟩
 by_cases hk0: ¬a.k=0
 ·have hkI: ¬a.k=((0:Nat):Int):=hk0
  by_cases hk1:a.k=1
  ·obtain⟨H3,X3,e3,I3⟩:=zL7 m hm (x0:=x0) (x1:=x1) h2 (by omega) (by omega) has g2 hk1 nE
   refine⟨H3,X3, ?_,I3.more (by omega) (by omega)⟩
   simp(maxSteps:=999999)(disch:=omega) only[uG,eZ,hln,hiI,i1,i2',hS,b1,e2',r4,k1,qK,nth,r0,hkI,e3]
  ·obtain⟨H3,e3,I3⟩:=zGo m hm (x0:=x0) (x1:=x1) (x13:= .bool (vS a.s X).isSome) h2 (by omega) (by omega) has g2 hk1
   refine⟨H3,X, ?_,I3.more (by omega) (by omega)⟩
   simp(maxSteps:=999999)(disch:=omega) only[uG,eZ,hln,hiI,i1,i2',hS,b1,e2',r4,k1,qK,nth,r0,hkI,e3]
 replace hk0:=Classical.not_not.1 hk0
 have hkI:a.k=((0:Nat):Int):=hk0
 have hk1:a.k≠1:=by omega
 obtain⟨kv,t,d,hl⟩:=h2.tr
 obtain⟨l1,l2,l3,l4⟩:=h2.lo
 obtain⟨n1',n2',n3',n4',n5'⟩:=h2.ne
 obtain⟨H3,e3,t3,s3⟩:=zGr m hm (nm:=a.s) (ino:=a.i) t (by omega) (by omega) d.f1 (d:=1) (by omega) (by omega) (by omega)
 have N3:=s3.next
 have P3:Prs Hi H3:=h2.prs.fresh s3 fun B hB=>by omega
 have gm3:H3.h.get Mm=some (.map [2] (vZ gI X)):=by rw[s3.keep _ (by omega) (by omega)];exact h2.gm
 have gc3:H3.h.get Mc=some (.map [2] (vZ gC X)):=by rw[s3.keep _ (by omega) (by omega)];exact h2.gc
 have g3:H3.h.get A11=some (.cells (acV a) 105 1 false):=by rw[s3.keep _ (by omega) (by omega)];exact g2
 have q4:ld1 (.ptr A11 4) H3=some (S a.s):=by rw[qL g3];rfl
 have q2:ld1 (.ptr A11 2) H3=some (.int .i64 a.i):=by rw[qL g3];rfl
 by_cases hz:(xW 1 a.s a.i kv).2.1=0
 ·have hin:1≤a.i∧a.i≤2147483647:=by
   by_cases hin:1≤a.i∧a.i≤2147483647
   ·exact hin
   ·rw[xW,if_neg hin]at hz;cases hz
  obtain⟨ino,hino⟩: ∃ino:Nat,a.i=(ino:Int):=⟨a.i.toNat,by omega⟩
  rw[hino]at hz e3 t3 q2
  obtain⟨e,f1,f2,f3,f4,f5,f6⟩:=d.add hz
  rw[f5]at e3 t3
  simp only at e3 t3
  have fc:=f1
  obtain⟨c1,c2,_⟩:=fc
  have hno:vS e.n X=none:=by rw[f3];exact f4
  have u4:=zDC gm3 e hno
  have s4:Stp (fun B=>B=Mm) H3 (H3.put Mm (.map [2] (vZ gI (X++[e])))):=(Stp.refl s3.ok).put (by omega) _ (.inr rfl)
  have gm4:(H3.put Mm (.map [2] (vZ gI (X++[e])))).h.get Mm=some (.map [2] (vZ gI (X++[e]))):=by rw[AH.put_get,if_pos rfl]
  generalize H3.put Mm (.map [2] (vZ gI (X++[e])))=H4 at u4 s4 gm4
  have N4:=s4.next
  have gc4:H4.h.get Mc=some (.map [2] (vZ gC X)):=by rw[s4.keep _ (by omega) (by omega)];exact gc3
  have g4:H4.h.get A11=some (.cells (acV a) 105 1 false):=by rw[s4.keep _ (by omega) (by omega)];exact g3
  have u5:=zDC gc4 e hno
  have s5:Stp (fun B=>B=Mc) H4 (H4.put Mc (.map [2] (vZ gC (X++[e])))):=(Stp.refl s4.ok).put (by omega) _ (.inr rfl)
  have gc5:(H4.put Mc (.map [2] (vZ gC (X++[e])))).h.get Mc=some (.map [2] (vZ gC (X++[e]))):=by rw[AH.put_get,if_pos rfl]
  generalize H4.put Mc (.map [2] (vZ gC (X++[e])))=H5 at u5 s5 gc5
  have N5:=s5.next
  have gm5:H5.h.get Mm=some (.map [2] (vZ gI (X++[e]))):=by rw[s5.keep _ (by omega) (by omega)];exact gm4
  have g5:H5.h.get A11=some (.cells (acV a) 105 1 false):=by rw[s5.keep _ (by omega) (by omega)];exact g4
  have t5:=(t3.map gm3 s4).map gc4 s5
  have P5:Prs Hi H5:=(P3.fresh s4 fun B hB=>by omega).fresh s5 fun B hB=>by omega
  have hlen:(Nd.putP (yD 1 e.c) (xI e) kv).length≤2+(i+1):=by
   have:=Nd.len_put (yD 1 e.c) (xI e) d.f1.1
   rw[this];split<;>omega
  have I5:MI Hi H5 At M Mm Mc (L+200) (i+1) (X++[e]):=⟨P5,⟨l1,l2,l3,l4⟩,⟨n1',n2',n3',n4',n5'⟩,gm5,gc5,⟨_,t5,f6,hlen⟩,by have:=h.few;simp;omega⟩
  have I5': ∃H6,Z3 (dy (m+1)) (m+1) [x0,x1, .ptr At 0, .map Mm, .map Mc, .int .i64 ((i:Nat):Int), .ptr A11 0, .bool false] H5=some (.norm [x0,x1, .ptr At 0, .map Mm, .map Mc, .int .i64 ((i+1:Nat):Int)],H6)∧Prs H5 H6:=by
   have r0:ld1 (.ptr A11 0) H5=some (.int .u8 a.k):=by rw[qL g5];rfl
   have hkI': ¬a.k=((1:Nat):Int):=hk1
   obtain⟨kv5,t5',d5,l5⟩:=I5.tr
   have I5i:MI Hi H5 At M Mm Mc (L+200) (i+1) (X++[e]):=I5
   obtain⟨H6,e6,p6⟩:=XE m hm (x0:=x0) (x1:=x1) (j:=i) I5i (by omega) (by omega) (by omega) has g5
   refine⟨H6, ?_,p6⟩
   simp(maxSteps:=999999)(disch:=omega) only[Z3,eZ,r0,hkI',e6]
  obtain⟨H6,e6,p6⟩:=I5'
  refine⟨H6,_, ?_,I5.fresh p6⟩
  rw[f4]at k1
  simp only[Option.isSome_none,Option.map_none,Option.getD_none]at k1
  have z1: ¬((e.c:Nat):Int)< ((1:Nat):Int):=by omega
  have z2: ¬((262144:Nat):Int)< ((e.c:Nat):Int):=by omega
  have w4:ld1 (.ptr A11 4) H4=some (S a.s):=by rw[qL g4];rfl
  rw[f3,gI,f2]at u4
  rw[f3,gC]at u5
  rw[hino]at r2
  simp(maxSteps:=999999)(disch:=omega) only[uG,JY,eZ,hln,hiI,i1,i2',hS,b1,e2',r4,k1,qK,nth,r0,hkI,r2,e3,z1,z2,q4,q2,u4,w4,u5,e6]
 ·have hno:=zGV hz
  rw[hno]at t3
  have I3:MI Hi H3 At M Mm Mc (L+200) i X:=⟨P3,⟨l1,l2,l3,l4⟩,⟨n1',n2',n3',n4',n5'⟩,gm3,gc3,⟨_,t3,d,hl⟩,h.few⟩
  obtain⟨H4,e4,I4⟩:=zGo m hm (x0:=x0) (x1:=x1) (x13:= .bool (vS a.s X).isSome) I3 (by omega) (by omega) has g3 hk1
  refine⟨H4,X, ?_,I4.more (by omega) (by omega)⟩
  have tz: ¬(((xW 1 a.s a.i kv).2.1:Nat):Int)=((0:Nat):Int):=by omega
  by_cases hin:1≤a.i∧a.i≤2147483647
  ·have he:=zIP d hz hin
   have hd:decide ((((xW 1 a.s a.i kv).2.1:Nat):Int)=((6:Nat):Int))=(vS a.s X).isSome:=by
    rw[Bool.eq_iff_iff,zC, ← he];omega
   simp(maxSteps:=999999)(disch:=omega) only[uG,JY,eZ,hln,hiI,i1,i2',hS,b1,e2',r4,k1,qK,nth,r0,hkI,r2,e3,tz,hd,beq_self_eq_true,Bool.not_true,Bool.false_eq_true,if_false,e4]
  ·cases hb: !(vS a.s X).isSome==decide ((((xW 1 a.s a.i kv).2.1:Nat):Int)=((6:Nat):Int))with
   | false=>
    simp(maxSteps:=999999)(disch:=omega) only[uG,JY,eZ,hln,hiI,i1,i2',hS,b1,e2',r4,k1,qK,nth,r0,hkI,r2,e3,tz,hb,Bool.false_eq_true,if_false,e4]
   | true=>
    by_cases h1:1≤a.i
    ·have z1:((1:Nat):Int)≤a.i:=h1
     have z2: ¬a.i≤((2147483647:Nat):Int):=fun h=>hin ⟨h1,h⟩
     simp(maxSteps:=999999)(disch:=omega) only[uG,JY,eZ,hln,hiI,i1,i2',hS,b1,e2',r4,k1,qK,nth,r0,hkI,r2,e3,tz,hb,q2,z1,z2,e4]
    ·have z1: ¬((1:Nat):Int)≤a.i:=h1
     simp(maxSteps:=999999)(disch:=omega) only[uG,JY,eZ,hln,hiI,i1,i2',hS,b1,e2',r4,k1,qK,nth,r0,hkI,r2,e3,tz,hb,q2,z1,e4]
theorem zIe (m:Nat)(hm:700000000≤m){Hi H:AH}{At M Mm Mc L:Nat}{l:List Ac}{x0 x1:AV}(hx0:AcR Hi x0 l)(hl100:l.length≤100)(hsl: ∀a∈l,a.s.length≤1000)(h:MI Hi H At M Mm Mc L 0 [])(hL:L≤1000):
  ∃H' X',qV (m+1) (uG (dy (m+1)) (m+1)) [x0,x1, .ptr At 0, .map Mm, .map Mc, .int .i64 ((0:Nat):Int)] H=some (.exit 0 [x0,x1, .ptr At 0, .map Mm, .map Mc],H')∧MI Hi H' At M Mm Mc 30000 l.length X':=by
 have lp:=v8 (b:=uG (dy (m+1)) (m+1)) l.length (fun i us H'=>us=[x0,x1, .ptr At 0, .map Mm, .map Mc, .int .i64 ((i:Nat):Int)]∧ ∃X,MI Hi H' At M Mm Mc (L+200*i) i X) (fun i us H' hi ⟨hus,X,hI⟩=>by
  subst hus
  obtain⟨H1,X1,e1,I1⟩:=zL5 m hm (x1:=x1) hx0 hl100 hsl hI (by omega) hi
  exact⟨_,H1,e1,rfl,X1,by rw[show L+200*(i+1)=L+200*i+200 by omega];exact I1⟩) (m+1) _ H ⟨rfl,[],by simpa using h⟩ (by omega)
 obtain⟨r,us,H1,e1,rfl,X,hI⟩:=lp
 refine⟨H1,X, ?_,hI.more (by omega) (Nat.le_refl _)⟩
 rw[e1]
 have hx:AcR H1 x0 l:=Rw.stp hx0 hI.prs fun _ _ x=>x
 have hln:lnSl x0=some (.int .i64 ((l.length:Nat):Int)):=hx.lnSl
 exact yB (by simp(maxSteps:=999999)(disch:=omega) only[uG,eZ,hln,zX])
theorem EnR.fields {H:AH}{v:AV}{l:List En}(h:EnR H v l){i:Nat}(hi:i<l.length): ∃A o,(∀κ (z:Int),z=(i:Int)→jP 3 v (.int κ z)=some (.ptr A o))∧Eng.ld1 (.ptr A o) H=some (S l[i].n)∧Eng.ld1 (.ptr A (o+1)) H=some (.int .i64 ((l[i].i:Nat):Int))∧Eng.ld1 (.ptr A (o+2)) H=some (.int .i64 ((l[i].c:Nat):Int)):=by
 obtain⟨A,o,c,e,sz,g,h1,h2,h3,h4,h5⟩:=Rw.at h hi
 rw[zBW etV 3 (fun _=>rfl) l i hi]at h5
 have gj: ∀j,j<3→c[o+j]? =(etV l[i])[j]? :=fun j hj=>by
  have:=congrArg (fun x=>x[j]?) h5
  simpa[qF hj]using this
 exact⟨A,o,h1,fO h2 (gj 0 (by omega)),fO h2 (gj 1 (by omega)),fO h2 (gj 2 (by omega))⟩
def bh (b:Nat)(s:List En):Nat:=match s.getLast? with
 | some e=>e.c
 | none=>b
theorem zB1 (b:Nat)(s:List En){i:Nat}(h:i<s.length):bh b (s.take (i+1))=s[i].c:=by
 rw[zM h,bh,List.getLast?_append];rfl
theorem bh_lt {b:Nat}{s:List En}(hs:s.Pairwise fun a b=>a.c<b.c)(hb: ∀e∈s,b<e.c){i:Nat}(h:i<s.length):bh b (s.take i)<s[i].c:=by
 cases i with
 | zero=>exact hb _ (zQ h)
 | succ i=>
  rw[zB1 b s (by omega)]
  exact List.pairwise_iff_getElem.1 hs i (i+1) (by omega) h (by omega)
theorem zIg (D:Dyn)(n:Nat){H:AH}{Mm Mc b t k N:Nat}{X s:List En}{x0 a5 v fl:AV}(hn:1000≤n)(hv:EnR H v s)(gm:H.h.get Mm=some (.map [2] (vZ gI X)))(gc:H.h.get Mc=some (.map [2] (vZ gC X)))(hne:X.Pairwise fun a b=>a.n≠b.n)(hX: ∀e∈s,e∈X)(hc:s.Pairwise fun a b=>a.c<b.c)(hb: ∀e∈s,b<e.c)(hs:s.length≤500)(ht:t≤1000):
  qV n (zCb D n) [x0, .int .i64 ((N:Nat):Int),a5, .map Mm, .map Mc, .int .i64 ((b:Nat):Int), .int .i64 ((t:Nat):Int), .int .i64 ((k:Nat):Int),v,fl, .int .i64 ((0:Nat):Int)] H=some (.exit 4 [x0, .int .i64 ((N:Nat):Int),a5, .map Mm, .map Mc, .int .i64 ((bh b s:Nat):Int), .int .i64 ((t+s.length:Nat):Int), .int .i64 ((k:Nat):Int),fl],H):=by
 refine wX (fun i=>[x0, .int .i64 ((N:Nat):Int),a5, .map Mm, .map Mc, .int .i64 ((bh b (s.take i):Nat):Int), .int .i64 ((t+i:Nat):Int), .int .i64 ((k:Nat):Int),v,fl, .int .i64 ((i:Nat):Int)]) s.length (fun i hi=> ?_) (fun q=> ?_) n (by omega)
 ·have hiI:((i:Nat):Int)< ((s.length:Nat):Int):=by omega
  have hi1:((i:Nat):Int)+((1:Nat):Int)=((i+1:Nat):Int):=by omega
  have ht1:((t+i:Nat):Int)+((1:Nat):Int)=((t+(i+1):Nat):Int):=by omega
  obtain⟨A,o,i1,i2,i3,i4⟩:=hv.fields hi
  have i2':ld1 (.ptr A (o+0)) H=some (S s[i].n):=i2
  have hw:vS s[i].n X=some s[i]:=(bL hne).2 ⟨hX _ (zQ hi),rfl⟩
  have k1:=aH gm (.int .i64 ((0:Nat):Int)) true s[i].n
  have k2:=aH gc (.int .i64 ((0:Nat):Int)) false s[i].n
  rw[hw]at k1 k2
  simp only[qH,Option.map_some,Option.getD_some,lkR,cond_true,cond_false,gI,gC]at k1 k2
  have hlt:=bh_lt hc hb hi
  have hle: ¬((s[i].c:Nat):Int)≤((bh b (s.take i):Nat):Int):=by omega
  have ti: ¬(((s[i].i:Nat):Int)≠((s[i].i:Nat):Int)):=by omega
  have tc: ¬(((s[i].c:Nat):Int)≠((s[i].c:Nat):Int)):=by omega
  simp(maxSteps:=999999)(disch:=omega) only[zCb,eZ,hv.lnSl,hiI,i1,i2',i3,i4,k1,k2,qK,nth,ti,tc,hle,ht1,hi1,zB1 b s hi]
 ·refine yB ?_
  simp(maxSteps:=999999)(disch:=omega) only[zCb,eZ,hv.lnSl,zX,qB]
theorem zGn (m:Nat)(hm:700000000≤m){Hi:AH}{At M Mm Mc L N:Nat}{X:List En}{l:List Ac}{x0:AV}{kv:Kvs}(hx0:AcR Hi x0 l)(hl100:l.length≤100)(hN:1≤N)(hN2:N≤20)(d:DM kv X)(hkv:kv.length≤1000)(hL:L≤100000)(hX:X.length≤l.length):
  ∀(rr kf b t k:Nat) {H:AH},(liE 1 b kv).length≤rr→rr<kf→b≤262144→t+(liE 1 b kv).length=X.length→k+(liE 1 b kv).length≤X.length→Prs Hi H→jE H At M L kv→H.h.get Mm=some (.map [2] (vZ gI X))→H.h.get Mc=some (.map [2] (vZ gC X))→
   ∃H',qV kf (UV (dy (m+1)) (m+1)) [x0, .int .i64 ((N:Nat):Int), .ptr At 0, .map Mm, .map Mc, .int .i64 ((b:Nat):Int), .int .i64 ((t:Nat):Int), .int .i64 ((k:Nat):Int)] H=some (.exit 2 [.ptr At 0, .map Mm, .int .i64 ((X.length:Nat):Int)],H')∧Prs H H'
 | _,0,_,_,_,_,_,hk,_,_,_,_,_,_,_=>by omega
 | rr,kf+1,b,t,k,H,hr,hkf,hb,ht,hk,P,tr,gm,gc=>by
  have hx:AcR H x0 l:=Rw.stp hx0 P fun _ _ x=>x
  have hln:lnSl x0=some (.int .i64 ((l.length:Nat):Int)):=hx.lnSl
  have hl1:((l.length:Nat):Int)+((1:Nat):Int)=((l.length+1:Nat):Int):=by omega
  have hkI:((k:Nat):Int)≤((l.length+1:Nat):Int):=by omega
  obtain⟨H1,v,e1,p1,r1,f1⟩:=zIj m hm (d:=1) (b:=b) (most:=N) tr (by omega) (by omega) d.f1 (by omega) (by omega) hb (by omega)
  obtain⟨R,hR⟩: ∃R,R=liE 1 b kv:=⟨_,rfl⟩
  have hs:=d.f1.sorted (d:=1) (by omega) hb
  obtain⟨_,m2,m3⟩:=d.f1.list (d:=1) (by omega) hb
  have hbe:=fun j h=>d.f1.behind (d:=1) (by omega) hb j h
  rw[← hR]at e1 r1 hs m2 m3 hbe ht hk hr
  have R1:EnR H1 v (R.take N):=r1.row
  have gm1:=Prs.get p1 P.ok gm
  have gc1:=Prs.get p1 P.ok gc
  have hmem: ∀e∈R.take N,e∈X:=fun e he=>by
   have he':=List.mem_of_mem_take he
   exact(d.mem e (m2 e he').1).1 ((m3 e (m2 e he').1).1 he').1
  have hts:(R.take N).length≤500:=by rw[zG];omega
  have pc:=zIg (dy (m+1)) (m+1) (x0:=x0) (a5:= .ptr At 0) (fl:= .bool (!decide (N<R.length))) (b:=b) (t:=t) (k:=k) (N:=N) (by omega) R1 gm1 gc1 d.ne hmem (List.Pairwise.sublist (List.take_sublist _ _) hs) (fun e he=>(m2 e (List.mem_of_mem_take he)).2) hts (by omega)
  have t00: ¬(((0:Nat):Int)≠((0:Nat):Int)):=by omega
  have hgt: ¬((N:Nat):Int)< (((R.take N).length:Nat):Int):=by rw[zG];omega
  by_cases hmore:N<R.length
  ·have hlen:(R.take N).length=N:=by rw[zG];omega
   have hlt: ¬(((R.take N).length:Nat):Int)< ((N:Nat):Int):=by omega
   obtain⟨N',rfl⟩: ∃N',N=N'+1:=⟨N - 1,by omega⟩
   have hbh:bh b (R.take (N'+1))=(R[N']'(by omega)).c:=zB1 b R (by omega)
   have hdrop:=hbe N' (by omega)
   rw[decide_eq_true hmore]at e1 pc
   simp only[Bool.not_true]at e1 pc
   have hR':liE 1 (bh b (R.take (N'+1))) kv=R.drop (N'+1):=by rw[hbh];exact hdrop
   have hc9:bh b (R.take (N'+1))≤262144:=by rw[hbh];exact(m2 _ (zQ (by omega:N'<R.length))).1.2.1
   obtain⟨H2,e2,p2⟩:=zGn m hm hx0 hl100 hN hN2 d hkv hL hX (rr - 1) kf (bh b (R.take (N'+1))) (t+(R.take (N'+1)).length) (k+1) (by rw[hR',zN];omega) (by omega) hc9 (by rw[hR',zN];omega) (by rw[hR',zN];omega) (P.trans p1) (tr.prs p1) gm1 gc1
   have hk1:((k:Nat):Int)+((1:Nat):Int)=((k+1:Nat):Int):=by omega
   have body:UV (dy (m+1)) (m+1) [x0, .int .i64 ((N'+1:Nat):Int), .ptr At 0, .map Mm, .map Mc, .int .i64 ((b:Nat):Int), .int .i64 ((t:Nat):Int), .int .i64 ((k:Nat):Int)] H=some (.norm [x0, .int .i64 ((N'+1:Nat):Int), .ptr At 0, .map Mm, .map Mc, .int .i64 ((bh b (R.take (N'+1)):Nat):Int), .int .i64 ((t+(R.take (N'+1)).length:Nat):Int), .int .i64 ((k+1:Nat):Int)],H1):=by
    simp(maxSteps:=999999)(disch:=omega) only[UV,eZ,hln,hl1,hkI,e1,qK,nth,t00,R1.lnSl,hgt,decide_true,Bool.not_true,Bool.not_false,hlt,pc,zFV,hk1]
   exact⟨H2,by rw[wL body,e2],p1.trans p2⟩
  ·have hlen:R.take N=R:=zJ (by omega)
   rw[decide_eq_false hmore]at e1 pc
   rw[hlen]at pc
   simp only[Bool.not_false]at e1 pc
   rw[hlen]at R1 hgt
   have htx:t+R.length=X.length:=ht
   rw[htx]at pc
   refine⟨H1,yB ?_,p1⟩
   simp(maxSteps:=999999)(disch:=omega) only[UV,eZ,hln,hl1,hkI,e1,qK,nth,t00,R1.lnSl,hgt,Bool.not_false,Bool.not_true,pc,zFV]
theorem zEU:uE zAb=true:=by decide
theorem zIh {kv:Kvs}{X:List En}(d:DM kv X): ∃e0:En,e0.i=5∧xR 2 zAb kv=some e0:=by
 obtain⟨e0,o1,o2,o3,o4,o5⟩:=d.oth
 refine⟨e0,o2, ?_⟩
 cases hf:xR 2 zAb kv with
 | none=>exact absurd o3 ((d.f2.find_none (by omega)).1 hf e0 o1 o4)
 | some x=>
  obtain⟨g1,g2,_⟩:=d.f2.found (by omega) hf
  rw[o5 x g1 g2]
theorem zL6 (m:Nat)(hm:700000000≤m){H:AH}{At M Mm L:Nat}{X:List En}{kv:Kvs}(d:DM kv X)(hkv:kv.length≤1000)(hL:L≤100000)(t:jE H At M L kv)(gm:H.h.get Mm=some (.map [2] (vZ gI X))):
  ∃H',zFU (dy (m+1)) (m+1) [.ptr At 0, .map Mm, .int .i64 ((X.length:Nat):Int)] H=some (.ret (.bool true),H')∧Prs H H':=by
 have hk:H.ok:=by obtain⟨_,_,_,_,_,_,_,_,_,ti,_⟩:=t;exact ti.ok
 obtain⟨H1,e1,p1⟩:=zCh m hm (nm:=zAb) t (by omega) (by omega) d.f2 (d:=2) (by omega) (by omega) (by decide)
 obtain⟨e0,o1,o2⟩:=zIh d
 have hfv:aK 2 zAb kv=[.int .i64 ((5:Nat):Int), .int .i64 ((e0.c:Nat):Int), .int .i64 ((0:Nat):Int)]:=by
  simp only[aK,zEU,cond_true,o2,o1]
 rw[hfv]at e1
 obtain⟨H2,e2,p2⟩:=zKK (m+1) (m+1) (by omega) [102] (t.prs p1) (by omega) (by omega)
 have hmk:Nd.mayK [102]=true:=by decide
 rw[hmk,if_pos rfl,d.key]at e2
 have hge:geR (some [107,101,121])= .tuple [S [107,101,121], .int .i64 ((0:Nat):Int)]:=rfl
 rw[hge]at e2
 have ln:=zKv (Prs.get (p1.trans p2) hk gm)
 refine⟨H2, ?_,p1.trans p2⟩
 have s1:(AV.str 5 491327616111)=S zAb:=rfl
 have s2:(AV.str 1 102)=S [102]:=rfl
 have s3:(AV.str 3 7955819)=S [107,101,121]:=rfl
 simp(maxSteps:=999999)(disch:=omega) only[zFU,eZ,s1,e1,qK,nth,s2,e2,ln,s3,jJ,decide_true]
theorem zCp (h:Nat):chE 2 h [([102],[107,101,121])]=[]:=by
 have: ∀a b,inP (yD 2 a) (yD 2 b) ([102],[107,101,121])=false:=fun a b=>by
  have hne:(yD 2 b).isEmpty=false:=rfl
  have h1:ltS [102] (yD 2 b)=false:=rfl
  simp only[inP,y9,hne,h1,Bool.or_false,Bool.and_false]
 rw[chE,List.filter_cons_of_neg (by rw[this];decide)];rfl
theorem zBO (d:Nat):inP (yD d 1) (vK (d+1)) ([102],[107,101,121])=false:=by
 have hne:(vK (d+1)).isEmpty=false:=rfl
 have h1:ltS [102] (vK (d+1))=false:=rfl
 simp only[inP,y9,hne,h1,Bool.or_false,Bool.and_false]
theorem zIf: ∃c:Nat,1≤c∧xW 2 zAb ((5:Nat):Int) [([102],[107,101,121])]=(c,0,Nd.putP (yD 2 c) (xI ⟨c,5,zAb⟩) [([102],[107,101,121])])∧DM (Nd.putP (yD 2 c) (xI ⟨c,5,zAb⟩) [([102],[107,101,121])]) []:=by
 have fs: ∀d,gJ d [([102],[107,101,121])]:=fun d=>⟨⟨fun p h=>(by cases h),trivial⟩,fun p hp hi=>by
  rw[List.mem_singleton]at hp
  subst hp
  rw[zBO]at hi;cases hi⟩
 have hz:(xW 2 zAb ((5:Nat):Int) [([102],[107,101,121])]).2.1=0:=by
  rw[xW,if_pos (by omega),if_pos zEU,if_neg (by rw[xR,zCp];decide),zCp];rfl
 obtain⟨e,g1,g2,g3,g4,g5,g6,g7⟩:=XV (fs 2) (by omega) hz
 have he:e=⟨e.c,5,zAb⟩:=by cases e;simp only at g2 g3;rw[g2,g3]
 have hc:=g1.2.1
 refine⟨e.c,g1.1,by rw[g7, ← he], ?_⟩
 rw[← he]
 have hk: ∀(d:Nat) (x:En) (v:Str),¬(wP d x=([102],v)):=fun d x v h=>by
  have:=congrArg (fun p=>p.1.length) h
  simp[wP,wI]at this
 refine⟨(fs 1).put2 (by omega) (by omega) (by omega),(fs 2).put g1,fun x hx=> ?_,fun x h=>(by cases h), .nil,⟨e,g1,g2,g3,(j7 (fs 2).1).2 (.inl rfl),fun x hx hm=> ?_⟩, ?_⟩
 ·rw[j7 (fs 1).1,List.mem_singleton]
  constructor
  ·rintro(h | ⟨h,_⟩)
   ·have:=(bC (by omega) (by omega) (by have:=hx.2.1;omega) (by omega) (congrArg Prod.fst h)).1;omega
   ·exact absurd h (hk 1 x _)
  ·intro h;cases h
 ·rcases(j7 (fs 2).1).1 hm with h | ⟨h,_⟩
  ·exact XC hx g1 h
  ·exact absurd (List.mem_singleton.1 h) (hk 2 x _)
 ·rw[Nd.look_put,if_neg (fun h=>by have:=congrArg List.length h;rw[wI]at this;simp at this)];rfl
def zHi (z:Int):Nat:=(z % 18446744073709551616).toNat
theorem zDG (z:Int):IntKind.wrap .u64 z=((zHi z:Nat):Int):=by
 rw[wrap_u64,zHi]
 have h1:=Int.emod_nonneg z (show(18446744073709551616:Int)≠0 by decide)
 omega
theorem dirMap_walk (m:Nat)(hm:700000000≤m){Hi:AH}(hk:Hi.ok){x0:AV}{l:List Ac}(z:Int)(hx:AcR Hi x0 l):
  ∃H',f12z (dy (m+1)) (m+1) [x0, .int .i64 z] Hi=some (.bool true,H')∧Prs Hi H':=by
 obtain⟨b,eb,hb⟩:=zIi (dy (m+1)) (m+1) (by omega) hx
 have hz: ∀H,z43 (dy (m+1)) (m+1) [] H=some (.bool true,H):=fun H=>rfl
 cases hbb:b with
 | true=>
  rw[hbb]at eb
  refine⟨Hi, ?_,Stp.refl hk⟩
  simp(maxSteps:=999999)(disch:=omega) only[f12z,eZ,eb,hz]
 | false=>
 rw[hbb]at eb
 obtain⟨hl,hsl⟩:=hb hbb
 obtain⟨H1,At,M,e1,p1,hA,hM,t1⟩:=zIb (dy (m+1)) (m+1) (by omega) hk
 obtain⟨m',hm'⟩: ∃m',m=m'+1:=⟨m - 1,by omega⟩
 obtain⟨H2,e2,t2,s2⟩:=zEw m' (m+1) (by omega) (by omega) t1 (by omega) (by simp) (k:=[102]) (v:=[107,101,121])
 have hput:aX [102] [107,101,121]=true:=by decide
 rw[hput,if_pos rfl,show m'+2=m+1 by omega]at e2
 rw[hput,if_pos rfl]at t2
 have hkv1:Nd.putP [102] [107,101,121] []=[([102],[107,101,121])]:=rfl
 rw[hkv1]at t2
 obtain⟨c,c1,ca,d⟩:=zIf
 have fs2:gJ 2 [([102],[107,101,121])]:=⟨⟨fun p h=>(by cases h),trivial⟩,fun p hp hi=>by
  rw[List.mem_singleton]at hp
  subst hp
  rw[zBO]at hi;cases hi⟩
 obtain⟨H3,e3,t3,s3⟩:=zGr m hm (nm:=zAb) (ino:=((5:Nat):Int)) t2 (by omega) (by simp) fs2 (d:=2) (by omega) (by omega) (by decide)
 rw[ca]at e3 t3
 simp only at e3 t3
 have P3:Prs Hi H3:=(p1.fresh s2 fun B hB=>by omega).fresh s3 fun B hB=>by omega
 obtain⟨H4,Mm,b4,p4,g4,m4,n4⟩:=box s3.ok (.map [2] [])
 obtain⟨H5,Mc,b5,p5,g5,m5,n5⟩:=box p4.ok (.map [2] [])
 have N1:=p1.next;have N2:=s2.next;have N3:=s3.next;have N4:=p4.next
 have lt:=t1.lt
 have hlen:(Nd.putP (yD 2 c) (xI ⟨c,5,zAb⟩) [([102],[107,101,121])]).length≤2+0:=by
  have:=Nd.len_put (yD 2 c) (xI ⟨c,5,zAb⟩) fs2.1
  rw[this];split<;>simp
 have I5:MI Hi H5 At M Mm Mc 400 0 []:=⟨(P3.trans p4).trans p5,⟨by omega,by omega,by omega,by omega⟩,⟨by omega,by omega,by omega,by omega,by omega⟩,Prs.get p5 p4.ok g4,g5,⟨_,(t3.prs (p4.trans p5)).up (by omega),d,hlen⟩,by simp⟩
 obtain⟨H6,X,e6,I6⟩:=zIe m hm (x1:= .int .i64 z) hx hl hsl I5 (by omega)
 obtain⟨kv,t6,d6,l6⟩:=I6.tr
 obtain⟨N,hN⟩: ∃N,N=1+zHi z % 20:=⟨_,rfl⟩
 have hN20:=Nat.mod_lt (zHi z) (show 20>0 by omega)
 obtain⟨_,hlist⟩:=d6.listed
 obtain⟨H7,e7,p7⟩:=zGn m hm (N:=N) hx hl (by omega) (by omega) d6 (by omega) (by omega) I6.few (liE 1 0 kv).length (m+1) 0 0 0 (Nat.le_refl _) (by have:=I6.few;omega) (by omega) (by omega) (by omega) I6.prs t6 I6.gm I6.gc
 obtain⟨H8,e8,p8⟩:=zL6 m hm d6 (by omega) (by omega) (t6.prs p7) (Prs.get p7 I6.prs.ok I6.gm)
 refine⟨H8, ?_,(I6.prs.trans p7).trans p8⟩
 have s1:(AV.str 5 491327616111)=S zAb:=rfl
 have s2':(AV.str 1 102)=S [102]:=rfl
 have s3':(AV.str 3 7955819)=S [107,101,121]:=rfl
 have t00: ¬(((0:Nat):Int)≠((0:Nat):Int)):=by omega
 have hrem:qO .rem (.int .u64 ((zHi z:Nat):Int)) (.int .u64 ((20:Nat):Int))=some (.int .u64 ((zHi z % 20:Nat):Int)):=by
  rw[zCs _ _ _ (by omega),Int.tmod_eq_emod_of_nonneg (by omega)];rfl
 have hw:IntKind.wrap .i64 ((zHi z % 20:Nat):Int)=((zHi z % 20:Nat):Int):=wrap_i64 (by omega) (by omega)
 have hadd:((1:Nat):Int)+((zHi z % 20:Nat):Int)=((N:Nat):Int):=by omega
 simp(maxSteps:=999999)(disch:=omega) only[f12z,eZ,eb,hz,e1,s2',s3',e2,t00,s1,e3,qK,nth,mkM,b4,b5,e6,zJw,zDG,hrem,hw,hadd,e7,e8]
end Go.Eng.Sh
end
section
namespace Go.Proofs.YtngkjhifpekkcaaGreat.dirMap
open Go.ChangeShapes Go.WideShapes Go.ChangeAt Go.RowKit
open Go.ChangeMaps (open_string shut_string)
theorem zCq: Tryz.prog.cellsOf 105=5:=by kernel_rfl
theorem zIx: Tryz.prog.cellsOf 5=1:=by kernel_rfl
theorem XM: Tryz.prog.cellsOf 3=1:=by kernel_rfl
theorem zIw: Tryz.prog.cellsOf 9=1:=by kernel_rfl
abbrev Raw:=Int×Int×Int×Int×ByteArray
def zDA (s:Raw):List Value:=[.int .u8 s.1, .int .i64 s.2.1, .int .i64 s.2.2.1, .int .i64 s.2.2.2.1, .string s.2.2.2.2]
open Go.Eng.Sh (Ac acV AcR)
def zN8 (s:Raw):Ac:=⟨s.1,s.2.1,s.2.2.1,s.2.2.2.1,s.2.2.2.2.data.toList⟩
theorem zN7 (N:Nat)(s:Raw):acV (zN8 s)=(zDA s).map (Go.Eng.cellAV N):=by
 simp only[zDA,List.map_cons,List.map_nil,Go.Eng.cellAV_string,acV,zN8]
 rfl
set_option maxRecDepth 100000 in
theorem zK2 {H:Type}{enc:TypeId×Value→H}{w:World}{base:Nat}{held:Bool}{fuel:Nat}{cs:List Value}{x:DataW H×List MemPlace}(h:DataW.trod enc Tryz.prog w base (fun _=>true) held fuel 105 cs=some x): ∃s:Raw,cs=zDA s∧True:=by
 obtain⟨xs,n,_,_,hl,hlen,hx⟩:=DataW.trod_struct Tryz.underlying105 h
 rw[zCq]at hl
 match cs,hl with
 | [c0,c1,c2,c3,c4],_=>
  match xs,hlen with
  | [y0,y1,y2,y3,y4],_=>
   have k0:DataW.trod enc Tryz.prog w base (fun _=>true) held n 5 [c0]=some y0:=by
    have this:DataW.trod enc Tryz.prog w base (fun _=>true) held n 5 (List.take (Tryz.prog.cellsOf 5) (List.drop 0 [c0,c1,c2,c3,c4]))=some y0:=hx 0 _ rfl
    rw[zIx]at this;exact this
   have k1:DataW.trod enc Tryz.prog w base (fun _=>true) held n 3 [c1]=some y1:=by
    have this:DataW.trod enc Tryz.prog w base (fun _=>true) held n 3 (List.take (Tryz.prog.cellsOf 3) (List.drop 1 [c0,c1,c2,c3,c4]))=some y1:=hx 1 _ rfl
    rw[XM]at this;exact this
   have k2:DataW.trod enc Tryz.prog w base (fun _=>true) held n 3 [c2]=some y2:=by
    have this:DataW.trod enc Tryz.prog w base (fun _=>true) held n 3 (List.take (Tryz.prog.cellsOf 3) (List.drop 2 [c0,c1,c2,c3,c4]))=some y2:=hx 2 _ rfl
    rw[XM]at this;exact this
   have k3:DataW.trod enc Tryz.prog w base (fun _=>true) held n 3 [c3]=some y3:=by
    have this:DataW.trod enc Tryz.prog w base (fun _=>true) held n 3 (List.take (Tryz.prog.cellsOf 3) (List.drop 3 [c0,c1,c2,c3,c4]))=some y3:=hx 3 _ rfl
    rw[XM]at this;exact this
   have k4:DataW.trod enc Tryz.prog w base (fun _=>true) held n 9 [c4]=some y4:=by
    have this:DataW.trod enc Tryz.prog w base (fun _=>true) held n 9 (List.take (Tryz.prog.cellsOf 9) (List.drop 4 [c0,c1,c2,c3,c4]))=some y4:=hx 4 _ rfl
    rw[zIw]at this;exact this
   clear hx h
   obtain⟨a0,h0,_⟩:=DataW.trod_int Tryz.underlying5 k0
   obtain⟨a1,h1,_⟩:=DataW.trod_int Tryz.underlying3 k1
   obtain⟨a2,h2,_⟩:=DataW.trod_int Tryz.underlying3 k2
   obtain⟨a3,h3,_⟩:=DataW.trod_int Tryz.underlying3 k3
   obtain⟨a4,h4,_⟩:=DataW.trod_string Tryz.underlying9 k4
   obtain rfl:=(List.cons.inj h0).1
   obtain rfl:=(List.cons.inj h1).1
   obtain rfl:=(List.cons.inj h2).1
   obtain rfl:=(List.cons.inj h3).1
   obtain rfl:=(List.cons.inj h4).1
   exact⟨(a0,a1,a2,a3,a4),rfl,trivial⟩
instance:Inhabited Raw:=⟨(0,0,0,0, .empty)⟩
set_option maxRecDepth 100000 in
theorem zHm {H:Type}{enc:TypeId×Value→H}{w:World}{base:Nat}{held:Bool}{v:Value}{d:DataW H}{ps:List MemPlace}(hv: ∃a len cap,v= .slice a len cap)(h:DataW.Trod enc Tryz.prog w base (fun _=>true) held 101 v d ps):
  ∃l:List Ac,AcR (Go.Eng.H0 w) (Go.Eng.argAV w.heap.size v) l:=by
 obtain⟨a0,len0,cap0,rfl⟩:=hv
 obtain⟨fuel,hf⟩:=h
 obtain⟨l,h1,h2⟩:=Go.Eng.srows_arg (α:=Raw) (k:=5) (by decide) (vals:=zDA) (fun _=>rfl) (good:=fun _=>True) Tryz.underlying101 zCq (fun h=>zK2 h) hf
 refine⟨l.map zN8, ?_⟩
 have e: ∀l:List Raw,(l.map zN8).flatMap acV=l.flatMap fun s=>(zDA s).map (Go.Eng.cellAV w.heap.size):=by
  intro l
  induction l with
  | nil=>rfl
  | cons s l ih=>rw[List.map_cons,zO,zO,zN7 w.heap.size s,ih]
 show Go.Eng.Rw 5 _ _ (l.map zN8).length _
 rw[e,zY];exact h1
theorem own:ownKnob Tryz.prog.godebug=none:=by kernel_rfl
theorem laid:laidOutB Tryz.prog=true:=by kernel_rfl
set_option maxRecDepth 100000 in
theorem contract (H:Type)(enc:TypeId×Value→H)(W:World)(base:Nat)(args:Array Value)(ds gs:List (DataW H))(before:List MemPlace)
  (hval: ∀(j:Nat) t v, Tryz.f12.params[j]? =some t→args[j]? =some v→Value.okWide Tryz.prog W .any base t v)
  (hW:DataW.Whole enc Tryz.prog Tryz.f12.params.toList Rows.dirMapSpec.vars false W args.toList ds gs before):
  Calls Tryz.prog 12 args W fun e W'=> ∃v,e= .returned v∧Rows.dirMapSpec.post enc Tryz.prog Tryz.f12 false true false false W args v W':=by
 have hW':=hW
 obtain⟨p,q,hA0,hV,rfl,hfz,hnd⟩:=hW
 have hA:DataW.TrodAll enc Tryz.prog W 0 (fun _=>true) true Tryz.f12.params.toList args.toList ds p:=hA0
 rw[Tryz.params12]at hA hval
 obtain⟨v0,vs0,d0,ds0,p0,q0,hargs,rfl,rfl,h0,r0⟩:=trodAll_cons hA
 obtain⟨v1,vs1,d1,ds1,p1,q1,rfl,rfl,rfl,h1,r1⟩:=trodAll_cons r0
 obtain⟨rfl,rfl,rfl⟩:=trodAll_nil r1
 obtain rfl:args= #[v0,v1]:=by cases args;simp_all
 obtain⟨rfl,rfl⟩:=trodVars_none hV
 clear hA0
 have hlt0: ∀x∈p0,x.block<W.heap.size:=fun x hx=>hW'.lt x (by simp[hx])
 obtain⟨l,hN⟩:=zHm (okWide_slice Tryz.underlying101 (hval 0 101 v0 rfl rfl)) h0
 obtain⟨z,rfl,rfl,rfl,hz⟩:=open_int Tryz.underlying3 (hval 1 3 v1 rfl rfl) h1
 obtain⟨m,hm⟩: ∃m:Nat,700000000≤m:=⟨_,Nat.le_refl _⟩
 obtain⟨H',hrun,hP⟩:=Go.Eng.Sh.dirMap_walk m hm (Go.Eng.H0_ok W) z hN
 have hcall:=Go.Eng.calls_param (Go.Eng.Sh.f12z_ok (Go.Eng.Sh.dy_ok (m+1)) (m+1)) W (args:= #[v0, .int .i64 z]) (H':=H') hrun (fun A hA=>hP.keep A hA (fun x=>x))
 refine hcall.mono fun e W' ⟨he,hb⟩=> ?_
 subst he
 simp only[List.append_nil]at hW'
 refine⟨_,rfl,_,_,_,[],p0++([]++[]),[],hW', ?_, ?_,rfl,hb.frame _,fun h=>by cases h⟩
 ·exact trodAll_cons_mk (shut_bool Tryz.underlying4 _) trodAll_mk0
 ·exact trodAll_cons_mk (Below.trod laid (by kernel_rfl) (of_decide_eq_true (by kernel_rfl)) h0 hb hlt0) (trodAll_cons_mk (shut_int Tryz.underlying3 hz) trodAll_mk0)
set_option maxRecDepth 100000 in
theorem lifted (os:Os)(started:os.Started)(H:Type)(enc:TypeId×Value→H):
  ReturnsInHanded {} Tryz.checked os 12 .any (Rows.dirMapSpec.pre6 enc Tryz.prog Tryz.f12 Rows.dirMapRow.domain false) (Rows.dirMapSpec.post enc Tryz.prog Tryz.f12 false true false false):=by
 refine returnsInHanded_of_change (C:= Tryz.checked) own started (by kernel_rfl) Tryz.func12
  (ChangeSpec.witness6 (enc:=enc) (C:= Tryz.checked) false ⟨#[], #[.slice none 0 0, .int .i64 0],[]⟩ 8 (by kernel_rfl) (by kernel_rfl) (by kernel_rfl) (by kernel_rfl)) ?_
 intro W base args ds gs before hval hW _ _
 exact contract H enc W base args ds gs before hval hW
theorem holds:Rows.DirMapSaid:=
 OpenClaim.holds_of_wide 12 Tryz.f12 rfl rfl rfl rfl rfl rfl rfl ⟨rfl,rfl,rfl,rfl,rfl⟩ rfl rfl rfl rfl rfl (by kernel_rfl) Tryz.func12 (by kernel_rfl)
  (of_decide_eq_true (by kernel_rfl)) (by unfold Func.isWrapper;first | (rw[if_pos (by decide+kernel)];kernel_rfl) | (rw[if_neg (by decide+kernel)];exact⟨rfl,rfl⟩))
  (fun os started H enc _=>lifted os started H enc)
end Go.Proofs.YtngkjhifpekkcaaGreat.dirMap
namespace Go.Proofs.YtngkjhifpekkcaaGreat
theorem dirMap_holds:Rows.DirMapSaid:=dirMap.holds
end Go.Proofs.YtngkjhifpekkcaaGreat
end
